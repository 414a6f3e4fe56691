/-
  What the law VmKeeps needs of our own library and of the walks, no more.
-/
import Derived.Test.YtfclkapelkhlpaaGreatDoorRows
import Derived.Test.YtfclkapelkhlpaaGreatDoorCards
import Derived.Test.YtfclkapelkhlpaaGreatDoorTie
import Derived.WalkKit
import Derived.Laws.StructEq
import Derived.ChangeKeysEq
import Derived.StillTail
import Derived.LoopN
import Derived.Deep.Quiet
import Derived.OrdersHeld
import Derived.Deep.RegionHeld3
import Derived.Deep.Slices
import Derived.MapKept
import Derived.Lib.Bytealg
import Derived.ChangeArms
import Derived.Lib.AppendZeros
import Derived.Lib.Overlaps
import Derived.Laws.CopyRow
import Derived.Shelf.SlSortCmp.SmallK
import Derived.Laws.Pointers
import Derived.Laws.OwnMore
import Derived.Laws.Concat
import Derived.Laws.Strings2
import Derived.Laws.Strings3
import Derived.Laws.IdiomStrings
import Derived.Lib.AppendStr
import Derived.Lib.ConvBytes
import Derived.Lib.LaidTab
import Derived.Lib.ItoaNum
import Derived.WideLaws
import Derived.Lib.SplitLaws
import Derived.Lib.JoinLaws
import Derived.Lib.AtoiAll
import Derived.Lib.ParseIntB
import Derived.Laws.NewFold
import Derived.Lib.Join
import Derived.Lib.Strings
import Derived.Sort.Grow
import Derived.Lib.Space
import Derived.Handed
import Derived.LaidMore
import Derived.LaidHandle
import Derived.Stop.LaidErr
import Derived.Shelf.Vars
import Derived.WideShapes
import Derived.Lib.ParseIntBTie
import Derived.Lib.ItoaLen
import Derived.Lib.AtoiAllCases
import Derived.Shelf.Strings.Builder1
import Derived.Laws.IdiomRangeMap
import Derived.Lib.FieldsLaws
import Derived.KernelRfl
import Derived.Test.YtfclkapelkhlpaaGreatDoorProg
import Derived.Lib.Slices
import Derived.Lib.Walk
import Derived.Shelf.Strings.OnBuilder
import Derived.Shelf.LaysM
import Derived.Shelf.Strconv.Itoa3
import Derived.Shelf.LaysC
import Derived.Shelf.Strconv.AtoiAll
import Derived.Shelf.Strconv.ErrVarAll
import Derived.Shelf.Strings.Split
import Derived.Shelf.Strings.Fields
import Derived.Shelf.Strings.BuilderX
import Derived.ProofKit
import Derived.SevenTiedAt
import Derived.OpenShut
import Derived.ShutString
import Derived.ChangeOld
import Derived.Below
import Derived.Test.YtfclkapelkhlpaaGreatDoorVmKeepsTe
set_option linter.unusedSimpArgs false
set_option linter.unusedVariables false
set_option maxRecDepth 10000
namespace Go.Proofs.YtfclkapelkhlpaaGreatDoor
open Go Go.Proofs Go.LX
noncomputable section
theorem vm_step_c (N : Nat) (w0 : World) (M : BS) (hM : ∀ b, M b → b < w0.heap.size) (sb : Nat) (sx : LX.State) (vs0 vs1 : Value) (ws0 ws1 : List Value) (hC : Chunk.holds w0 M (Chunk.own' (.two (.two (.two (.two (.blk sb [vs0, vs1, (.int .i64 (sx.status)), (.int .i64 (sx.wher))]) (.own nFrame.raw 49 vs0 (List.zip sx.frames ws0))) (.pce (famS rVal 51 hn ws0 (List.map nFrame.sub sx.frames)))) (.own (nLst Val).raw 47 vs1 (List.zip sx.cells ws1))) (.pce (famS rVal 51 hn ws1 (List.map (nLst Val).sub sx.cells))) : Chunk)) (.two (.two (.two (.two (.blk sb [vs0, vs1, (.int .i64 (sx.status)), (.int .i64 (sx.wher))]) (.own nFrame.raw 49 vs0 (List.zip sx.frames ws0))) (.pce (famS rVal 51 hn ws0 (List.map nFrame.sub sx.frames)))) (.own (nLst Val).raw 47 vs1 (List.zip sx.cells ws1))) (.pce (famS rVal 51 hn ws1 (List.map (nLst Val).sub sx.cells))) : Chunk)) (hap : ∀ b, Chunk.own' (.two (.two (.two (.two (.blk sb [vs0, vs1, (.int .i64 (sx.status)), (.int .i64 (sx.wher))]) (.own nFrame.raw 49 vs0 (List.zip sx.frames ws0))) (.pce (famS rVal 51 hn ws0 (List.map nFrame.sub sx.frames)))) (.own (nLst Val).raw 47 vs1 (List.zip sx.cells ws1))) (.pce (famS rVal 51 hn ws1 (List.map (nLst Val).sub sx.cells))) : Chunk) b → ¬ M b) (va : Value) (a : List Proc) (ha : RdSl rProc w0 (fun b => M b ∨ (.two (.two (.two (.two (.blk sb [vs0, vs1, (.int .i64 (sx.status)), (.int .i64 (sx.wher))]) (.own nFrame.raw 49 vs0 (List.zip sx.frames ws0))) (.pce (famS rVal 51 hn ws0 (List.map nFrame.sub sx.frames)))) (.own (nLst Val).raw 47 vs1 (List.zip sx.cells ws1))) (.pce (famS rVal 51 hn ws1 (List.map (nLst Val).sub sx.cells))) : Chunk).own' b) va a) (r : VOut × Bool × LX.State) (hs : vm_step N sx a = some r) :
    Calls Tryz.prog 65 #[va, (.pointer (some ⟨sb, 0, none⟩))] w0 (fun e w' => Keep (Chunk.own' (.two (.two (.two (.two (.blk sb [vs0, vs1, (.int .i64 (sx.status)), (.int .i64 (sx.wher))]) (.own nFrame.raw 49 vs0 (List.zip sx.frames ws0))) (.pce (famS rVal 51 hn ws0 (List.map nFrame.sub sx.frames)))) (.own (nLst Val).raw 47 vs1 (List.zip sx.cells ws1))) (.pce (famS rVal 51 hn ws1 (List.map (nLst Val).sub sx.cells))) : Chunk)) w0 w' ∧ ∃ us0, ∃ us1, ∃ wt0, ∃ wt1, e = .returned (.tuple #[.agg #[.bool r.1.said, .int .i64 r.1.n, .bool r.1.paused], .bool r.2.1]) ∧ Chunk.holds w' M (Chunk.own' (.two (.two (.two (.two (.blk sb [us0, us1, .int .i64 r.2.2.status, .int .i64 r.2.2.wher]) (.own nFrame.raw 49 us0 (List.zip r.2.2.frames wt0))) (.pce (famS rVal 51 hn wt0 (List.map nFrame.sub r.2.2.frames)))) (.own (nLst Val).raw 47 us1 (List.zip r.2.2.cells wt1))) (.pce (famS rVal 51 hn wt1 (List.map (nLst Val).sub r.2.2.cells))) : Chunk)) (.two (.two (.two (.two (.blk sb [us0, us1, .int .i64 r.2.2.status, .int .i64 r.2.2.wher]) (.own nFrame.raw 49 us0 (List.zip r.2.2.frames wt0))) (.pce (famS rVal 51 hn wt0 (List.map nFrame.sub r.2.2.frames)))) (.own (nLst Val).raw 47 us1 (List.zip r.2.2.cells wt1))) (.pce (famS rVal 51 hn wt1 (List.map (nLst Val).sub r.2.2.cells))) : Chunk) ∧ (∀ b, Chunk.own' (.two (.two (.two (.two (.blk sb [us0, us1, .int .i64 r.2.2.status, .int .i64 r.2.2.wher]) (.own nFrame.raw 49 us0 (List.zip r.2.2.frames wt0))) (.pce (famS rVal 51 hn wt0 (List.map nFrame.sub r.2.2.frames)))) (.own (nLst Val).raw 47 us1 (List.zip r.2.2.cells wt1))) (.pce (famS rVal 51 hn wt1 (List.map (nLst Val).sub r.2.2.cells))) : Chunk) b → b < w0.heap.size → Chunk.own' (.two (.two (.two (.two (.blk sb [vs0, vs1, (.int .i64 (sx.status)), (.int .i64 (sx.wher))]) (.own nFrame.raw 49 vs0 (List.zip sx.frames ws0))) (.pce (famS rVal 51 hn ws0 (List.map nFrame.sub sx.frames)))) (.own (nLst Val).raw 47 vs1 (List.zip sx.cells ws1))) (.pce (famS rVal 51 hn ws1 (List.map (nLst Val).sub sx.cells))) : Chunk) b)) := by
 refine calls_start (args := [va, (.pointer (some ⟨sb, 0, none⟩))]) Tryz.func65 rfl Tryz.ntmps65 (Nat.le_of_ble_eq_true rfl) ?_
 have h := SH.init1 hM hC hap
 replace h := h.argRdC 6 ha own1
 generalize hK0 : (.two (.two (.two (.two (.blk sb [vs0, vs1, (.int .i64 (sx.status)), (.int .i64 (sx.wher))]) (.own nFrame.raw 49 vs0 (List.zip sx.frames ws0))) (.pce (famS rVal 51 hn ws0 (List.map nFrame.sub sx.frames)))) (.own (nLst Val).raw 47 vs1 (List.zip sx.cells ws1))) (.pce (famS rVal 51 hn ws1 (List.map (nLst Val).sub sx.cells))) : Chunk).own' = K0 at h
 replace h := h.unpair 1 5 (by decide) rfl rfl
 replace h := h.unpair 1 4 (by decide) rfl rfl
 replace h := h.unpair 1 3 (by decide) rfl rfl
 replace h := h.unpair 1 2 (by decide) rfl rfl
 have hl_a := ha.len_le
 refine wc_seq (wc_region (w_allocN h 7 Many101 fun w b1 h => wl_ok (r_assign (v := (.bool (false))) rfl) (wl_nil (then_normal (wc_seq (wc_region (wl_ok (r_move (v := (.pointer (some ⟨sb, 0, none⟩))) rfl) (wl_ok (r_nilCheck rfl) (wl_ok (r_fieldAddr Fld26x0 rfl) (wl_ok (r_ldB h 1 rfl One23 rfl rfl) (wl_ok (r_lenZ (N := nFrame) SliceOf23 rfl (h.ownS 2 rfl) (h.dnLen 3 rfl)) ?_)))))))))))
 obtain ⟨a2, hs⟩ := o_grd hs
 refine wl_ok (r_sub rfl rfl a2) (wl_ok (r_assign (v := (.int .i64 (((sx.frames.length : Int) - 1)))) rfl) (wl_nil (then_normal (wc_seq (wc_region (wl_ok (r_move (v := (.pointer (some ⟨sb, 0, none⟩))) rfl) (wl_ok (r_nilCheck rfl) (wl_ok (r_fieldAddr Fld26x0 rfl) (wl_ok (r_ldB h 1 rfl One23 rfl rfl) (wl_ok (r_move (v := (.int .i64 (((sx.frames.length : Int) - 1)))) rfl) ?_))))))))))
 obtain ⟨x3, e4, hs⟩ := o_bind hs
 obtain ⟨u8, e9, h⟩ := h.dnOpenL 3 8 x3.regs rfl rfl (by decide) (o_idx e4).2 rfl
 obtain ⟨b6, q7, i5⟩ := h.ixO 2 rfl SliceOf23 rfl (o_idx e4).1 (zip_at (o_idx e4).2 e9)
 refine wl_ok (i5 _ _ _ _ _ _ _ _ _ rfl rfl) (wl_ok (r_assign (v := (.pointer (some ⟨b6, (((sx.frames.length : Int) - 1)).toNat * 4, none⟩))) rfl) (wl_nil (then_normal (wc_seq (wc_held mixed h fun w h => wh_ok 0 (Keep.refl BE _) rfl want_none (by kernel_rfl) (by kernel_rfl) (by kernel_rfl) (fun w hk => r_move (v := va) rfl) (wh_ok 1 (Keep.refl BE _) rfl want_none (by kernel_rfl) (by kernel_rfl) (by kernel_rfl) (fun w hk => r_move (v := (.pointer (some ⟨b6, (((sx.frames.length : Int) - 1)).toNat * 4, none⟩))) rfl) (wh_ok 2 (Keep.refl BE _) rfl want_none (by kernel_rfl) (by kernel_rfl) (by kernel_rfl) (fun w hk => r_nilCheck rfl) (wh_ok 3 (Keep.refl BE _) rfl want_none (by kernel_rfl) (by kernel_rfl) (by kernel_rfl) (fun w hk => r_fieldAddr Fld49x0 rfl) ?_))))))))
 obtain ⟨csq10x4_1, mq10x4_2, rq10x4_3⟩ := h.elO 2 rfl q7 (zip_at (o_idx e4).2 e9)
 obtain ⟨rfl, -⟩ := rq10x4_3
 refine wh_ok 4 (Keep.refl BE _) rfl want_none (by kernel_rfl) (by kernel_rfl) (by kernel_rfl) (fun w hk => have h := h.grow hk; r_ldA (k := 0) (mq10x4_2.grow hk) One3 rfl rfl) ?_
 obtain ⟨xq10x5_1, eq10x5_2, hs⟩ := o_bind hs
 obtain ⟨bq10x5_4, oq10x5_5, csq10x5_6, h, rq10x5_7, iq10x5_3⟩ := h.ixR 6 69 rfl SliceOf22 rfl (o_idx eq10x5_2).1 (o_idx eq10x5_2).2
 obtain ⟨uq10x5_8, rfl, gq10x5_9⟩ := rProc_open rq10x5_7
 replace h := h.knowRd 70 gq10x5_9.up
 refine wh_ok 5 (Keep.refl BE _) rfl want_none (by kernel_rfl) (by kernel_rfl) (by kernel_rfl) (fun w hk => iq10x5_3 _ _ _ _ _ _ _ _ _ rfl rfl) (wh_ok 6 (Keep.refl BE _) rfl want_none (by kernel_rfl) (by kernel_rfl) (by kernel_rfl) (fun w hk => r_fieldAddr Fld57x2 rfl) (wh_ok 7 (Keep.refl BE _) rfl want_none (by kernel_rfl) (by kernel_rfl) (by kernel_rfl) (fun w hk => have h := h.grow hk; r_ldP (k := 2) h 69 rfl One55 rfl rfl) (wh_ok 8 (Keep.refl BE _) rfl want_none (by kernel_rfl) (by kernel_rfl) (by kernel_rfl) (fun w hk => r_move (v := (.pointer (some ⟨b6, (((sx.frames.length : Int) - 1)).toNat * 4, none⟩))) rfl) (wh_ok 9 (Keep.refl BE _) rfl want_none (by kernel_rfl) (by kernel_rfl) (by kernel_rfl) (fun w hk => r_nilCheck rfl) (wh_ok 10 (Keep.refl BE _) rfl want_none (by kernel_rfl) (by kernel_rfl) (by kernel_rfl) (fun w hk => r_fieldAddr Fld49x1 rfl) ?_)))))
 obtain ⟨csq10x11_1, mq10x11_2, rq10x11_3⟩ := h.elO 2 rfl q7 (zip_at (o_idx e4).2 e9)
 obtain ⟨rfl, -⟩ := rq10x11_3
 refine wh_ok 11 (Keep.refl BE _) rfl want_none (by kernel_rfl) (by kernel_rfl) (by kernel_rfl) (fun w hk => have h := h.grow hk; r_ldA (k := 1) (mq10x11_2.grow hk) One3 rfl rfl) ?_
 obtain ⟨xq10x12_1, eq10x12_2, hs⟩ := o_bind hs
 obtain ⟨bq10x12_4, oq10x12_5, csq10x12_6, h, rq10x12_7, iq10x12_3⟩ := h.ixR 70 153 rfl SliceOf55 rfl (o_idx eq10x12_2).1 (o_idx eq10x12_2).2
 obtain ⟨uq10x12_8, rfl, gq10x12_9⟩ := rIns_open rq10x12_7
 replace h := h.knowRd 154 gq10x12_9.up
 refine wh_ok 12 (Keep.refl BE _) rfl want_none (by kernel_rfl) (by kernel_rfl) (by kernel_rfl) (fun w hk => iq10x12_3 _ _ _ _ _ _ _ _ _ rfl rfl) (wh_ok 13 (Keep.refl BE _) rfl want_none (by kernel_rfl) (by kernel_rfl) (by kernel_rfl) (fun w hk => have h := h.grow hk; r_ldPN (k := 0) (vs := [(.int .i64 (xq10x12_1.op)), (.int .i64 (xq10x12_1.a)), (.int .i64 (xq10x12_1.b)), (.int .i64 (xq10x12_1.c)), uq10x12_8]) h 153 rfl Many93 rfl rfl rfl (Nat.le_of_ble_eq_true rfl)) ?_)
 obtain ⟨ws11, ws11e⟩ : ∃ x, x = w := ⟨_, rfl⟩
 have hg12 : Grow ws11 w := ws11e ▸ Keep.refl BE w
 refine wh_at ws11e.symm (wh_eff 14 (by kernel_rfl) rfl want_none (w_allocNG h 177 Many93 fun w bq10x14_1 h bq10x14_1k bq10x14_1f => ?_))
 have bq10x14_1q : ws11.heap.size ≤ bq10x14_1 := Nat.le_trans hg12.size bq10x14_1f
 replace hg12 := hg12.trans bq10x14_1k
 refine wl_nil (wh_back hg12 (wh_eff 15 (by kernel_rfl) rfl want_none (w_stNG (vs := [(.int .i64 (xq10x12_1.op)), (.int .i64 (xq10x12_1.a)), (.int .i64 (xq10x12_1.b)), (.int .i64 (xq10x12_1.c)), uq10x12_8]) h 177 [(.int .i64 (xq10x12_1.op)), (.int .i64 (xq10x12_1.a)), (.int .i64 (xq10x12_1.b)), (.int .i64 (xq10x12_1.c)), uq10x12_8] rfl Many93 rfl rfl rfl rfl rfl (ones_cons rfl (ones_cons rfl (ones_cons rfl (ones_cons rfl (ones_cons (h.rdAt 154 rfl).one ones_nil))))) fun w h kq10x15_1 => ?_)))
 replace hg12 := hg12.fresh kq10x15_1 (fun x hx => hx ▸ bq10x14_1q)
 refine wl_nil (wh_back hg12 (wh_done (by kernel_rfl) (then_normal (wc_seq (wc_tail 19 mixed (by kernel_rfl) h fun w h => wk_ok (r_move (v := (.pointer (some ⟨b6, (((sx.frames.length : Int) - 1)).toNat * 4, none⟩))) rfl) (wk_ok (r_move (v := (.pointer (some ⟨b6, (((sx.frames.length : Int) - 1)).toNat * 4, none⟩))) rfl) (wk_ok (r_nilCheck rfl) (wk_ok (r_fieldAddr Fld49x1 rfl) ?_))))))))
 obtain ⟨cs13, m14, r15⟩ := h.elO 2 rfl q7 (zip_at (o_idx e4).2 e9)
 obtain ⟨rfl, -⟩ := r15
 refine wk_ok (r_ldA (k := 1) m14 One3 rfl rfl) ?_
 obtain ⟨a16, hs⟩ := o_grd hs
 refine wk_ok (r_add rfl rfl a16) (wk_ok (r_move (v := va) rfl) (wk_ok (r_move (v := (.pointer (some ⟨b6, (((sx.frames.length : Int) - 1)).toNat * 4, none⟩))) rfl) (wk_ok (r_nilCheck rfl) (wk_ok (r_fieldAddr Fld49x0 rfl) ?_))))
 obtain ⟨cs17, m18, r19⟩ := h.elO 2 rfl q7 (zip_at (o_idx e4).2 e9)
 obtain ⟨rfl, -⟩ := r19
 refine wk_ok (r_ldA (k := 0) m18 One3 rfl rfl) ?_
 obtain ⟨b21, o22, cs23, h, r24, i20⟩ := h.ixR 6 213 rfl SliceOf22 rfl (o_idx eq10x5_2).1 (o_idx eq10x5_2).2
 obtain ⟨u25, rfl, g26⟩ := rProc_open r24
 replace h := h.knowRd 214 g26.up
 refine wk_ok (i20 _ _ _ _ _ _ _ _ _ rfl rfl) (wk_ok (r_fieldAddr Fld57x2 rfl) (wk_ok (r_ldP (k := 2) h 213 rfl One55 rfl rfl) (wk_ok (r_len SliceOf55 rfl (h.rdS 214 rfl)) ?_)))
 obtain ⟨a27, hs⟩ := o_grd hs
 refine wk_ok (r_sub rfl rfl a27) (wk_ok (r_min rfl rfl) (wk_ok (r_nilCheck rfl) (wk_ok (r_fieldAddr Fld49x1 rfl) (wk_go (w_stO (a' := (({ x3 with at_ := (min (x3.at_ + 1) ((xq10x5_1.code.length : Int) - 1)) }), u8)) h 2 rfl q7 rfl (zip_at (o_idx e4).2 e9) One3 rfl rfl rfl rfl (by rintro _ ⟨rfl, hq⟩; exact ⟨rfl, hq⟩) fun w h => ?_)))))
 rw [zip_setL e9] at h
 replace h := h.famL 3 ({ x3 with at_ := (min (x3.at_ + 1) ((xq10x5_1.code.length : Int) - 1)) }) rfl
 refine wl_nil (then_normal (wc_seq (wc_region (wl_ok (r_move (v := (.pointer (some ⟨b6, (((sx.frames.length : Int) - 1)).toNat * 4, none⟩))) rfl) (wl_ok (r_nilCheck rfl) (wl_ok (r_fieldAddr Fld49x2 rfl) ?_))))))
 obtain ⟨cs28, m29, r30⟩ := h.elO 2 rfl q7 (zip_at (set_at (o_idx e4).2) e9)
 obtain ⟨rfl, -⟩ := r30
 refine wl_ok (r_ldA (k := 2) m29 One47 rfl rfl) (wl_ok (r_assign (v := u8) rfl) (wl_nil (then_normal (wc_join (σ := Bool × Value × List Value × List LX.Frame × Value × List Value × List (List Val) × Int × Int) (inl [5, 10, 60, 61, 62, 63, 64, 65, 66, 67, 68, 69, 70, 71, 72, 73, 74, 75, 76, 77, 78, 79, 80, 81, 82, 83, 84, 85, 86, 87, 88, 89, 90, 91, 92, 93, 94, 95, 96, 97, 98, 99, 100, 101, 102, 103, 104, 105, 106, 107, 108, 109, 110, 111, 112, 113, 114, 115, 116, 117, 118, 119, 120, 121, 122, 123, 124, 125, 126, 127, 128, 129, 130, 131, 132, 133, 134, 135, 136, 137, 138, 139, 140, 141, 142, 143, 144, 145, 146, 147, 148, 149, 150, 151, 152, 153, 154, 155, 156, 157, 158, 159, 160, 161, 162, 163, 164, 165, 166, 167, 168, 169, 170, 171, 172, 173, 174, 175, 176, 177, 178, 179, 180, 181, 182, 183, 184, 185, 186, 187, 188, 189, 190, 191, 192, 193, 194, 195, 196, 197, 198, 199, 200, 201, 202, 203, 204, 205, 206, 207, 208, 209, 210, 211, 212, 213, 214, 215]) (fun ⟨y31, v32, us33, y34, v35, us36, y37, y38, y39⟩ => []) (fun ⟨y31, v32, us33, y34, v35, us36, y37, y38, y39⟩ w => SH w0 M K0 w (hset [(1, .blk sb [v32, v35, (.int .i64 (y38)), (.int .i64 (y39))]), (2, .own nFrame.raw 49 v32 (List.zip y34 us33)), (3, .pce (famS rVal 51 hn us33 (List.map nFrame.sub y34))), (4, .own (nLst Val).raw 47 v35 (List.zip y37 us36)), (5, .pce (famS rVal 51 hn us36 (List.map (nLst Val).sub y37))), (7, .blk b1 [(.bool (false)), (.int .i64 (0)), (.bool (y31))])]) ∧ vm_step_j3 y31 y34 y37 y38 y39 = some r) ?_ ?_))))
 ·
  rintro ⟨y31, v32, us33, y34, v35, us36, y37, y38, y39⟩ w junk ⟨h, hs⟩
  refine wc_seq (wc_region (wl_ok (r_ldBN (vs := [(.bool (false)), (.int .i64 (0)), (.bool (y31))]) h 7 rfl Many101 rfl rfl rfl) (w_stN (vs := [(.bool (false)), (.int .i64 (0)), (.bool (y31))]) h 7 [(.bool (false)), (.int .i64 (0)), (.bool (y31))] rfl Many101 rfl rfl rfl rfl rfl (ones_cons rfl (ones_cons rfl (ones_cons rfl ones_nil))) fun w h => wl_ok (r_assign (v := (.bool (true))) rfl) (wl_nil (then_normal (wc_ret (fin_ct (vs := [(.bool (false)), (.int .i64 (0)), (.bool (y31))]) (v2 := (.bool (true))) Tryz.results65 rfl rfl h 7 rfl Many101 rfl ?_)))))))
  replace h := h.pair 1 2 (by decide)
  replace h := h.pair 1 3 (by decide)
  replace h := h.pair 1 4 (by decide)
  replace h := h.pair 1 5 (by decide)
  obtain rfl := Option.some.inj hs
  subst hK0
  obtain ⟨o1, o2, o3⟩ := h.outS 1 (C := (.two (.two (.two (.two (.blk sb [v32, v35, (.int .i64 (y38)), (.int .i64 (y39))]) (.own nFrame.raw 49 v32 (List.zip y34 us33))) (.pce (famS rVal 51 hn us33 (List.map nFrame.sub y34)))) (.own (nLst Val).raw 47 v35 (List.zip y37 us36))) (.pce (famS rVal 51 hn us36 (List.map (nLst Val).sub y37))) : Chunk)) rfl ⟨⟨⟨⟨trivial, trivial⟩, trivial⟩, trivial⟩, trivial⟩
  exact ⟨o2, v32, v35, us33, us36, rfl, o1, o3⟩
 ·
  refine wc_seq (wc_region (wl_ok (r_fieldAddr Fld93x0 rfl) (wl_ok (r_ldB h 177 rfl One3 rfl rfl) (wl_nil (then_normal (wc_block (wc_seq (wc_region (wl_ok (r_eql rfl rfl) (wl_ok (r_assign (v := (.bool (decide ((xq10x12_1.op : Int) = 1)))) rfl) (wl_nil (then_normal (wc_ifb hs rfl (fun c40 hs => ?_) (fun c40 hs => ?_))))))))))))))
  ·
   refine wc_region (wl_ok (r_move (v := u8) rfl) (wl_ok (r_fieldAddr Fld93x1 rfl) (wl_ok (r_ldB h 177 rfl One3 rfl rfl) (wl_ok (r_fieldAddr Fld93x2 rfl) (wl_ok (r_ldB h 177 rfl One3 rfl rfl) (wl_ok (r_build (pv := [(0, (.int .i64 (1))), (1, (.int .i64 (xq10x12_1.b)))]) (out := [(.int .i64 (1)), (.int .i64 (xq10x12_1.b))]) Struct51 rfl ⟨0, 1, [(.int .i64 (1))], rfl, rfl, rfl, Nat.le_of_ble_eq_true rfl, ⟨1, 1, [(.int .i64 (xq10x12_1.b))], rfl, rfl, rfl, Nat.le_of_ble_eq_true rfl, rfl⟩⟩) ?_))))))
   obtain ⟨x41, e42, hs⟩ := o_bind hs
   obtain ⟨b44, q45, i43⟩ := h.ixO 8 rfl SliceOf47 rfl (o_idx e42).1 (o_idx e42).2
   refine wl_ok (i43 _ _ _ _ _ _ _ _ _ rfl rfl) (w_stON (a' := (⟨1, xq10x12_1.b⟩ : Val)) (vs := [(.int .i64 (1)), (.int .i64 (xq10x12_1.b))]) h 8 rfl q45 rfl (o_idx e42).2 Many51 rfl rfl rfl rfl rfl fun w h k46 => wl_nil (inBlock_normal ?_))
   replace h := h.dnClose 2 3 8 ({ x3 with at_ := (min (x3.at_ + 1) ((xq10x5_1.code.length : Int) - 1)), regs := (x3.regs.set (xq10x12_1.a).toNat (⟨1, xq10x12_1.b⟩ : Val)) }) rfl rfl rfl (by decide) (by decide) (by decide) (set_at (o_idx e4).2) e9 rfl
   refine then_loop ?_
   exact jend (false, vs0, ws0, ((sx.frames.set (((sx.frames.length : Int) - 1)).toNat ({ x3 with at_ := (min (x3.at_ + 1) ((xq10x5_1.code.length : Int) - 1)) })).set (((sx.frames.length : Int) - 1)).toNat ({ x3 with at_ := (min (x3.at_ + 1) ((xq10x5_1.code.length : Int) - 1)), regs := (x3.regs.set (xq10x12_1.a).toNat (⟨1, xq10x12_1.b⟩ : Val)) })), vs1, ws1, sx.cells, sx.status, sx.wher) ⟨h.cn _, hs⟩
  ·
   refine wc_seq (wc_region (wl_ok (r_eql rfl rfl) (wl_ok (r_assign (v := (.bool (decide ((xq10x12_1.op : Int) = 2)))) rfl) (wl_nil (then_normal (wc_ifb hs rfl (fun c47 hs => ?_) (fun c47 hs => ?_)))))))
   ·
    refine wc_tail 9 mixed (by kernel_rfl) h fun w h => wk_ok (r_move (v := u8) rfl) (wk_ok (r_fieldAddr Fld93x1 rfl) (wk_ok (r_ldB h 177 rfl One3 rfl rfl) (wk_ok (r_move (v := u8) rfl) (wk_ok (r_fieldAddr Fld93x2 rfl) (wk_ok (r_ldB h 177 rfl One3 rfl rfl) ?_)))))
    obtain ⟨x48, e49, hs⟩ := o_bind hs
    obtain ⟨b51, q52, i50⟩ := h.ixO 8 rfl SliceOf47 rfl (o_idx e49).1 (o_idx e49).2
    refine wk_ok (i50 _ _ _ _ _ _ _ _ _ rfl rfl) ?_
    obtain ⟨cs53, m54, r55⟩ := h.elO 8 rfl q52 (o_idx e49).2
    obtain rfl := r55
    refine wk_ok (r_ldAN (k := 0) (vs := [(.int .i64 (x48.kind)), (.int .i64 (x48.n))]) m54 Many51 rfl rfl rfl (Nat.le_of_ble_eq_true rfl)) ?_
    obtain ⟨x56, e57, hs⟩ := o_bind hs
    obtain ⟨b59, q60, i58⟩ := h.ixO 8 rfl SliceOf47 rfl (o_idx e57).1 (o_idx e57).2
    refine wk_ok (i58 _ _ _ _ _ _ _ _ _ rfl rfl) (wk_go (w_stON (a' := x48) (vs := [(.int .i64 (x48.kind)), (.int .i64 (x48.n))]) h 8 rfl q60 rfl (o_idx e57).2 Many51 rfl rfl rfl rfl rfl fun w h k61 => wl_nil (inBlock_normal ?_)))
    replace h := h.dnClose 2 3 8 ({ x3 with at_ := (min (x3.at_ + 1) ((xq10x5_1.code.length : Int) - 1)), regs := (x3.regs.set (xq10x12_1.a).toNat x48) }) rfl rfl rfl (by decide) (by decide) (by decide) (set_at (o_idx e4).2) e9 rfl
    refine then_loop ?_
    exact jend (false, vs0, ws0, ((sx.frames.set (((sx.frames.length : Int) - 1)).toNat ({ x3 with at_ := (min (x3.at_ + 1) ((xq10x5_1.code.length : Int) - 1)) })).set (((sx.frames.length : Int) - 1)).toNat ({ x3 with at_ := (min (x3.at_ + 1) ((xq10x5_1.code.length : Int) - 1)), regs := (x3.regs.set (xq10x12_1.a).toNat x48) })), vs1, ws1, sx.cells, sx.status, sx.wher) ⟨h.cn _, hs⟩
   ·
    refine wc_seq (wc_region (wl_ok (r_eql rfl rfl) (wl_ok (r_assign (v := (.bool (decide ((xq10x12_1.op : Int) = 3)))) rfl) (wl_nil (then_normal (wc_ifb hs rfl (fun c62 hs => ?_) (fun c62 hs => ?_)))))))
    ·
     refine wc_join (σ := Bool × List LX.Frame) (inl [5, 84, 85, 86, 87, 88, 89, 90, 91, 92, 93, 94, 95, 96, 97, 98, 99, 100, 101, 102, 103, 104, 105]) (fun ⟨x63, y64⟩ => [(5, (.bool (x63)))]) (fun ⟨x63, y64⟩ w => SH w0 M K0 w (hset [(1, .blk sb [vs0, vs1, (.int .i64 (sx.status)), (.int .i64 (sx.wher))]), (2, .own nFrame.raw 49 vs0 (List.zip y64 ws0)), (3, .pce (famS rVal 51 hn ws0 (List.map nFrame.sub y64))), (4, .own (nLst Val).raw 47 vs1 (List.zip sx.cells ws1)), (5, .pce (famS rVal 51 hn ws1 (List.map (nLst Val).sub sx.cells))), (7, .blk b1 [(.bool (false)), (.int .i64 (0)), (.bool (false))])]) ∧ vm_step_j4 sx x63 y64 = some r) ?_ ?_
     ·
      rintro ⟨x63, y64⟩ w junk ⟨h, hs⟩
      refine wc_seq (wc_region (wl_ok (r_ldBN (vs := [(.bool (false)), (.int .i64 (0)), (.bool (false))]) h 7 rfl Many101 rfl rfl rfl) (wl_ok (r_move (v := (.bool (x63))) rfl) (w_stN (vs := [(.bool (false)), (.int .i64 (0)), (.bool (false))]) h 7 [(.bool (false)), (.int .i64 (0)), (.bool (false))] rfl Many101 rfl rfl rfl rfl rfl (ones_cons rfl (ones_cons rfl (ones_cons rfl ones_nil))) fun w h => wl_ok (r_assign (v := (.bool (x63))) rfl) (wl_nil (then_normal (wc_ret (inBlock_ret (then_ret (fin_ct (vs := [(.bool (false)), (.int .i64 (0)), (.bool (false))]) (v2 := (.bool (x63))) Tryz.results65 rfl rfl h 7 rfl Many101 rfl ?_))))))))))
      replace h := h.pair 1 2 (by decide)
      replace h := h.pair 1 3 (by decide)
      replace h := h.pair 1 4 (by decide)
      replace h := h.pair 1 5 (by decide)
      obtain rfl := Option.some.inj hs
      subst hK0
      obtain ⟨o1, o2, o3⟩ := h.outS 1 (C := (.two (.two (.two (.two (.blk sb [vs0, vs1, (.int .i64 (sx.status)), (.int .i64 (sx.wher))]) (.own nFrame.raw 49 vs0 (List.zip y64 ws0))) (.pce (famS rVal 51 hn ws0 (List.map nFrame.sub y64)))) (.own (nLst Val).raw 47 vs1 (List.zip sx.cells ws1))) (.pce (famS rVal 51 hn ws1 (List.map (nLst Val).sub sx.cells))) : Chunk)) rfl ⟨⟨⟨⟨trivial, trivial⟩, trivial⟩, trivial⟩, trivial⟩
      exact ⟨o2, vs0, vs1, ws0, ws1, rfl, o1, o3⟩
     ·
      refine wck_held (L := (ob u8)) mixed h fun w h => whk_ok 0 (Keep.refl _ _) rfl want_none (by kernel_rfl) (by kernel_rfl) (by kernel_rfl) (fun w hk => r_move (v := u8) rfl) (whk_ok 1 (Keep.refl _ _) rfl want_none (by kernel_rfl) (by kernel_rfl) (by kernel_rfl) (fun w hk => r_fieldAddr Fld93x1 rfl) (whk_ok 2 (Keep.refl _ _) rfl want_none (by kernel_rfl) (by kernel_rfl) (by kernel_rfl) (fun w hk => have h := h.loseC 8 rfl hk; r_ldB h 177 rfl One3 rfl rfl) (whk_ok 3 (Keep.refl _ _) rfl want_none (by kernel_rfl) (by kernel_rfl) (by kernel_rfl) (fun w hk => r_fieldAddr Fld93x4 rfl) (whk_ok 4 (Keep.refl _ _) rfl want_none (by kernel_rfl) (by kernel_rfl) (by kernel_rfl) (fun w hk => have h := h.loseC 8 rfl hk; r_ldB h 177 rfl One27 rfl rfl) ?_))))
      obtain ⟨xq70x5_1, eq70x5_2, hs⟩ := o_bind hs
      obtain ⟨bq70x5_4, oq70x5_5, csq70x5_6, h, rq70x5_7, iq70x5_3⟩ := h.ixR 154 275 rfl SliceOf27 rfl (o_idx eq70x5_2).1 (o_idx eq70x5_2).2
      obtain rfl := rq70x5_7
      refine whk_ok 5 (Keep.refl _ _) rfl want_none (by kernel_rfl) (by kernel_rfl) (by kernel_rfl) (fun w hk => iq70x5_3 _ _ _ _ _ _ _ _ _ rfl rfl) (whk_ok 6 (Keep.refl _ _) rfl want_none (by kernel_rfl) (by kernel_rfl) (by kernel_rfl) (fun w hk => have h := h.loseC 8 rfl hk; r_ldP (k := 0) h 275 rfl One3 rfl rfl) (whk_ok 7 (Keep.refl _ _) rfl want_none (by kernel_rfl) (by kernel_rfl) (by kernel_rfl) (fun w hk => r_move (v := u8) rfl) (whk_ok 8 (Keep.refl _ _) rfl want_none (by kernel_rfl) (by kernel_rfl) (by kernel_rfl) (fun w hk => r_fieldAddr Fld93x2 rfl) (whk_ok 9 (Keep.refl _ _) rfl want_none (by kernel_rfl) (by kernel_rfl) (by kernel_rfl) (fun w hk => have h := h.loseC 8 rfl hk; r_ldB h 177 rfl One3 rfl rfl) ?_))))
      obtain ⟨xq70x10_1, eq70x10_2, hs⟩ := o_bind hs
      obtain ⟨bq70x10_4, qq70x10_5, iq70x10_3⟩ := h.ixO 8 rfl SliceOf47 rfl (o_idx eq70x10_2).1 (o_idx eq70x10_2).2
      refine whk_ok 10 (Keep.refl _ _) rfl want_none (by kernel_rfl) (by kernel_rfl) (by kernel_rfl) (fun w hk => iq70x10_3 _ _ _ _ _ _ _ _ _ rfl rfl) (whk_ok 12 (Keep.refl _ _) rfl want_none (by kernel_rfl) (by kernel_rfl) (by kernel_rfl) (fun w hk => r_move (v := u8) rfl) (whk_ok 13 (Keep.refl _ _) rfl want_none (by kernel_rfl) (by kernel_rfl) (by kernel_rfl) (fun w hk => r_fieldAddr Fld93x3 rfl) (whk_ok 14 (Keep.refl _ _) rfl want_none (by kernel_rfl) (by kernel_rfl) (by kernel_rfl) (fun w hk => have h := h.loseC 8 rfl hk; r_ldB h 177 rfl One3 rfl rfl) ?_)))
      obtain ⟨xq70x15_1, eq70x15_2, hs⟩ := o_bind hs
      obtain ⟨bq70x15_4, qq70x15_5, iq70x15_3⟩ := h.ixO 8 rfl SliceOf47 rfl (o_idx eq70x15_2).1 (o_idx eq70x15_2).2
      refine whk_ok 15 (Keep.refl _ _) rfl want_none (by kernel_rfl) (by kernel_rfl) (by kernel_rfl) (fun w hk => iq70x15_3 _ _ _ _ _ _ _ _ _ rfl rfl) ?_
      obtain ⟨yq70x17_1, eq70x17_2, hs⟩ := o_bind hs
      obtain ⟨xq70x21_1, eq70x21_2, hs⟩ := o_bind hs
      obtain ⟨ws71, ws71e⟩ : ∃ x, x = w := ⟨_, rfl⟩
      have hg72 : Keep (ob u8) ws71 w := ws71e ▸ Keep.refl (ob u8) w
      refine whk_at ws71e.symm (whk_eff2 11 16 (by kernel_rfl) rfl want_none rfl want_none ?_ ?_)
      ·
       obtain ⟨csq70x11_1, mq70x11_2, rq70x11_3⟩ := h.elO 8 rfl qq70x10_5 (o_idx eq70x10_2).2
       obtain rfl := rq70x11_3
       refine wl_ok (r_ldAN (k := 0) (vs := [(.int .i64 (xq70x10_1.kind)), (.int .i64 (xq70x10_1.n))]) mq70x11_2 Many51 rfl rfl rfl (Nat.le_of_ble_eq_true rfl)) (wl_nil (whk_back hg72 (whk_eff 16 (by kernel_rfl) rfl want_none ?_)))
       obtain ⟨csq70x16_1, mq70x16_2, rq70x16_3⟩ := h.elO 8 rfl qq70x15_5 (o_idx eq70x15_2).2
       obtain rfl := rq70x16_3
       refine wl_ok (r_ldAN (k := 0) (vs := [(.int .i64 (xq70x15_1.kind)), (.int .i64 (xq70x15_1.n))]) mq70x16_2 Many51 rfl rfl rfl (Nat.le_of_ble_eq_true rfl)) (wl_nil (whk_back hg72 (whk_eff 17 (by kernel_rfl) rfl want_none (w_call fnOk87 rfl rfl (vm_op_c _ _ h.lt xq70x5_1 xq70x10_1 xq70x15_1 _ eq70x17_2) ?_))))
       rintro _ w ⟨kq70x17_3, rfl⟩
       refine ⟨_, rfl, ?_⟩
       replace h := h.grow kq70x17_3
       replace hg72 := hg72.grow kq70x17_3
       refine wl_nil (whk_back hg72 (whk_ok 18 hg72 rfl want_none (by kernel_rfl) (by kernel_rfl) (by kernel_rfl) (fun w hk => r_move (v := (.tuple #[(.agg #[(.int .i64 (yq70x17_1.1.kind)), (.int .i64 (yq70x17_1.1.n))]), (.bool (yq70x17_1.2))])) rfl) (whk_ok 19 hg72 rfl want_none (by kernel_rfl) (by kernel_rfl) (by kernel_rfl) (fun w hk => r_extract rfl rfl) (whk_ok 20 hg72 rfl want_none (by kernel_rfl) (by kernel_rfl) (by kernel_rfl) (fun w hk => r_extract rfl rfl) ?_))))
       obtain ⟨bq70x21_4, qq70x21_5, iq70x21_3⟩ := h.ixO 8 rfl SliceOf47 rfl (o_idx eq70x21_2).1 (o_idx eq70x21_2).2
       refine whk_ok 21 hg72 rfl want_none (by kernel_rfl) (by kernel_rfl) (by kernel_rfl) (fun w hk => iq70x21_3 _ _ _ _ _ _ _ _ _ rfl rfl) (whk_eff 22 (by kernel_rfl) rfl want_none (w_stON (a' := yq70x17_1.1) (vs := [(.int .i64 (yq70x17_1.1.kind)), (.int .i64 (yq70x17_1.1.n))]) h 8 rfl qq70x21_5 rfl (o_idx eq70x21_2).2 Many51 rfl rfl rfl rfl rfl fun w h kq70x22_1 => ?_))
       replace hg72 := hg72.same kq70x22_1
       refine wl_nil (whk_back hg72 (whk_ok 23 hg72 rfl want_none (by kernel_rfl) (by kernel_rfl) (by kernel_rfl) (fun w hk => r_assign (v := (.bool (yq70x17_1.2))) rfl) (whk_done (by kernel_rfl) ?_)))
       replace h := h.dnClose 2 3 8 ({ x3 with at_ := (min (x3.at_ + 1) ((xq10x5_1.code.length : Int) - 1)), regs := (x3.regs.set (xq10x12_1.a).toNat yq70x17_1.1) }) rfl rfl rfl (by decide) (by decide) (by decide) (set_at (o_idx e4).2) e9 rfl
       refine then_loop ?_
       exact jend (yq70x17_1.2, ((sx.frames.set (((sx.frames.length : Int) - 1)).toNat ({ x3 with at_ := (min (x3.at_ + 1) ((xq10x5_1.code.length : Int) - 1)) })).set (((sx.frames.length : Int) - 1)).toNat ({ x3 with at_ := (min (x3.at_ + 1) ((xq10x5_1.code.length : Int) - 1)), regs := (x3.regs.set (xq10x12_1.a).toNat yq70x17_1.1) }))) ⟨h.cn _, hs⟩
      ·
       obtain ⟨csq70x16_1, mq70x16_2, rq70x16_3⟩ := h.elO 8 rfl qq70x15_5 (o_idx eq70x15_2).2
       obtain rfl := rq70x16_3
       refine wl_ok (r_ldAN (k := 0) (vs := [(.int .i64 (xq70x15_1.kind)), (.int .i64 (xq70x15_1.n))]) mq70x16_2 Many51 rfl rfl rfl (Nat.le_of_ble_eq_true rfl)) (wl_nil (whk_back hg72 (whk_eff 11 (by kernel_rfl) rfl want_none ?_)))
       obtain ⟨csq70x11_1, mq70x11_2, rq70x11_3⟩ := h.elO 8 rfl qq70x10_5 (o_idx eq70x10_2).2
       obtain rfl := rq70x11_3
       refine wl_ok (r_ldAN (k := 0) (vs := [(.int .i64 (xq70x10_1.kind)), (.int .i64 (xq70x10_1.n))]) mq70x11_2 Many51 rfl rfl rfl (Nat.le_of_ble_eq_true rfl)) (wl_nil (whk_back hg72 (whk_eff 17 (by kernel_rfl) rfl want_none (w_call fnOk87 rfl rfl (vm_op_c _ _ h.lt xq70x5_1 xq70x10_1 xq70x15_1 _ eq70x17_2) ?_))))
       rintro _ w ⟨kq70x17_3, rfl⟩
       refine ⟨_, rfl, ?_⟩
       replace h := h.grow kq70x17_3
       replace hg72 := hg72.grow kq70x17_3
       refine wl_nil (whk_back hg72 (whk_ok 18 hg72 rfl want_none (by kernel_rfl) (by kernel_rfl) (by kernel_rfl) (fun w hk => r_move (v := (.tuple #[(.agg #[(.int .i64 (yq70x17_1.1.kind)), (.int .i64 (yq70x17_1.1.n))]), (.bool (yq70x17_1.2))])) rfl) (whk_ok 19 hg72 rfl want_none (by kernel_rfl) (by kernel_rfl) (by kernel_rfl) (fun w hk => r_extract rfl rfl) (whk_ok 20 hg72 rfl want_none (by kernel_rfl) (by kernel_rfl) (by kernel_rfl) (fun w hk => r_extract rfl rfl) ?_))))
       obtain ⟨bq70x21_4, qq70x21_5, iq70x21_3⟩ := h.ixO 8 rfl SliceOf47 rfl (o_idx eq70x21_2).1 (o_idx eq70x21_2).2
       refine whk_ok 21 hg72 rfl want_none (by kernel_rfl) (by kernel_rfl) (by kernel_rfl) (fun w hk => iq70x21_3 _ _ _ _ _ _ _ _ _ rfl rfl) (whk_eff 22 (by kernel_rfl) rfl want_none (w_stON (a' := yq70x17_1.1) (vs := [(.int .i64 (yq70x17_1.1.kind)), (.int .i64 (yq70x17_1.1.n))]) h 8 rfl qq70x21_5 rfl (o_idx eq70x21_2).2 Many51 rfl rfl rfl rfl rfl fun w h kq70x22_1 => ?_))
       replace hg72 := hg72.same kq70x22_1
       refine wl_nil (whk_back hg72 (whk_ok 23 hg72 rfl want_none (by kernel_rfl) (by kernel_rfl) (by kernel_rfl) (fun w hk => r_assign (v := (.bool (yq70x17_1.2))) rfl) (whk_done (by kernel_rfl) ?_)))
       replace h := h.dnClose 2 3 8 ({ x3 with at_ := (min (x3.at_ + 1) ((xq10x5_1.code.length : Int) - 1)), regs := (x3.regs.set (xq10x12_1.a).toNat yq70x17_1.1) }) rfl rfl rfl (by decide) (by decide) (by decide) (set_at (o_idx e4).2) e9 rfl
       refine then_loop ?_
       exact jend (yq70x17_1.2, ((sx.frames.set (((sx.frames.length : Int) - 1)).toNat ({ x3 with at_ := (min (x3.at_ + 1) ((xq10x5_1.code.length : Int) - 1)) })).set (((sx.frames.length : Int) - 1)).toNat ({ x3 with at_ := (min (x3.at_ + 1) ((xq10x5_1.code.length : Int) - 1)), regs := (x3.regs.set (xq10x12_1.a).toNat yq70x17_1.1) }))) ⟨h.cn _, hs⟩
    ·
     refine wc_join (σ := Bool) (inl [108, 109, 110]) (fun x73 => [(108, (.bool (x73)))]) (fun x73 w => SH w0 M K0 w (hset [(1, .blk sb [vs0, vs1, (.int .i64 (sx.status)), (.int .i64 (sx.wher))]), (2, .own nFrame.raw 49 vs0 (List.zip (sx.frames.set (((sx.frames.length : Int) - 1)).toNat ({ x3 with at_ := (min (x3.at_ + 1) ((xq10x5_1.code.length : Int) - 1)) })) ws0)), (3, .pce (famS rVal 51 (hat (((sx.frames.length : Int) - 1)).toNat) ws0 (List.map nFrame.sub (sx.frames.set (((sx.frames.length : Int) - 1)).toNat ({ x3 with at_ := (min (x3.at_ + 1) ((xq10x5_1.code.length : Int) - 1)) }))))), (4, .own (nLst Val).raw 47 vs1 (List.zip sx.cells ws1)), (5, .pce (famS rVal 51 hn ws1 (List.map (nLst Val).sub sx.cells))), (6, .rd rProc va a), (7, .blk b1 [(.bool (false)), (.int .i64 (0)), (.bool (false))]), (8, .own rVal 51 u8 x3.regs), (154, .rd rInt uq10x12_8 xq10x12_1.args), (177, .blk bq10x14_1 [(.int .i64 (xq10x12_1.op)), (.int .i64 (xq10x12_1.a)), (.int .i64 (xq10x12_1.b)), (.int .i64 (xq10x12_1.c)), uq10x12_8])]) ∧ vm_step_j5 N sx x3 xq10x5_1 xq10x12_1 a x73 = some r) ?_ ?_
     ·
      rintro x73 w junk ⟨h, hs⟩
      refine wc_ifb hs rfl (fun c74 hs => ?_) (fun c74 hs => ?_)
      ·
       refine wc_seq ?_
       replace h := h.dnClose0 3 8 rfl rfl (by decide) (set_at (o_idx e4).2) e9 rfl
       refine wck_held (L := (fun b => Chunk.own' (.two (.two (.two (.two (.blk sb [vs0, vs1, (.int .i64 (sx.status)), (.int .i64 (sx.wher))]) (.own nFrame.raw 49 vs0 (List.zip (sx.frames.set (((sx.frames.length : Int) - 1)).toNat ({ x3 with at_ := (min (x3.at_ + 1) ((xq10x5_1.code.length : Int) - 1)) })) ws0))) (.pce (famS rVal 51 hn ws0 (List.map nFrame.sub (sx.frames.set (((sx.frames.length : Int) - 1)).toNat ({ x3 with at_ := (min (x3.at_ + 1) ((xq10x5_1.code.length : Int) - 1)) })))))) (.own (nLst Val).raw 47 vs1 (List.zip sx.cells ws1))) (.pce (famS rVal 51 hn ws1 (List.map (nLst Val).sub sx.cells))) : Chunk) b ∨ b = b1)) mixed h fun w h => whk_ok 1 (Keep.refl _ _) rfl want_none (by kernel_rfl) (by kernel_rfl) (by kernel_rfl) (fun w hk => r_move (v := (.pointer (some ⟨sb, 0, none⟩))) rfl) (whk_ok 2 (Keep.refl _ _) rfl want_none (by kernel_rfl) (by kernel_rfl) (by kernel_rfl) (fun w hk => have h := ((((h.pair 1 2 (by decide)).pair 1 3 (by decide)).pair 1 4 (by decide)).pair 1 5 (by decide)).loseC2 1 7 (by decide) rfl rfl hk; r_ldBN (vs := [(.int .i64 (xq10x12_1.op)), (.int .i64 (xq10x12_1.a)), (.int .i64 (xq10x12_1.b)), (.int .i64 (xq10x12_1.c)), uq10x12_8]) h 177 rfl Many93 rfl rfl rfl) (whk_ok 3 (Keep.refl _ _) rfl want_none (by kernel_rfl) (by kernel_rfl) (by kernel_rfl) (fun w hk => r_move (v := u8) rfl) ?_))
       obtain ⟨yq85x4_2, eq85x4_3, hs⟩ := o_bind hs
       obtain ⟨ws86, ws86e⟩ : ∃ x, x = w := ⟨_, rfl⟩
       have hg87 : Keep (fun b => Chunk.own' (.two (.two (.two (.two (.blk sb [vs0, vs1, (.int .i64 (sx.status)), (.int .i64 (sx.wher))]) (.own nFrame.raw 49 vs0 (List.zip (sx.frames.set (((sx.frames.length : Int) - 1)).toNat ({ x3 with at_ := (min (x3.at_ + 1) ((xq10x5_1.code.length : Int) - 1)) })) ws0))) (.pce (famS rVal 51 hn ws0 (List.map nFrame.sub (sx.frames.set (((sx.frames.length : Int) - 1)).toNat ({ x3 with at_ := (min (x3.at_ + 1) ((xq10x5_1.code.length : Int) - 1)) })))))) (.own (nLst Val).raw 47 vs1 (List.zip sx.cells ws1))) (.pce (famS rVal 51 hn ws1 (List.map (nLst Val).sub sx.cells))) : Chunk) b ∨ b = b1) ws86 w := ws86e ▸ Keep.refl (fun b => Chunk.own' (.two (.two (.two (.two (.blk sb [vs0, vs1, (.int .i64 (sx.status)), (.int .i64 (sx.wher))]) (.own nFrame.raw 49 vs0 (List.zip (sx.frames.set (((sx.frames.length : Int) - 1)).toNat ({ x3 with at_ := (min (x3.at_ + 1) ((xq10x5_1.code.length : Int) - 1)) })) ws0))) (.pce (famS rVal 51 hn ws0 (List.map nFrame.sub (sx.frames.set (((sx.frames.length : Int) - 1)).toNat ({ x3 with at_ := (min (x3.at_ + 1) ((xq10x5_1.code.length : Int) - 1)) })))))) (.own (nLst Val).raw 47 vs1 (List.zip sx.cells ws1))) (.pce (famS rVal 51 hn ws1 (List.map (nLst Val).sub sx.cells))) : Chunk) b ∨ b = b1) w
       refine whk_at ws86e.symm (whk_eff2 0 4 (by kernel_rfl) rfl want_none rfl want_none ?_ ?_)
       ·
        refine wl_ok (r_ldBN (vs := [(.bool (false)), (.int .i64 (0)), (.bool (false))]) h 7 rfl Many101 rfl rfl rfl) (wl_nil (whk_back hg87 (whk_eff 4 (by kernel_rfl) rfl want_none ?_)))
        replace h := h.pair 1 2 (by decide)
        replace h := h.pair 1 3 (by decide)
        replace h := h.pair 1 4 (by decide)
        replace h := h.pair 1 5 (by decide)
        obtain ⟨lq85x4_1a, lq85x4_1b, lq85x4_1c⟩ := h.lendS 1 (C := (.two (.two (.two (.two (.blk sb [vs0, vs1, (.int .i64 (sx.status)), (.int .i64 (sx.wher))]) (.own nFrame.raw 49 vs0 (List.zip (sx.frames.set (((sx.frames.length : Int) - 1)).toNat ({ x3 with at_ := (min (x3.at_ + 1) ((xq10x5_1.code.length : Int) - 1)) })) ws0))) (.pce (famS rVal 51 hn ws0 (List.map nFrame.sub (sx.frames.set (((sx.frames.length : Int) - 1)).toNat ({ x3 with at_ := (min (x3.at_ + 1) ((xq10x5_1.code.length : Int) - 1)) })))))) (.own (nLst Val).raw 47 vs1 (List.zip sx.cells ws1))) (.pce (famS rVal 51 hn ws1 (List.map (nLst Val).sub sx.cells))) : Chunk)) rfl ⟨⟨⟨⟨trivial, trivial⟩, trivial⟩, trivial⟩, trivial⟩
        refine w_call fnOk88 rfl rfl (vm_field_c _ _ lq85x4_1c sb (⟨(sx.frames.set (((sx.frames.length : Int) - 1)).toNat ({ x3 with at_ := (min (x3.at_ + 1) ((xq10x5_1.code.length : Int) - 1)) })), sx.cells, sx.status, sx.wher⟩ : LX.State) vs0 vs1 ws0 ws1 lq85x4_1a lq85x4_1b xq10x12_1 uq10x12_8 (h.rdC 1 154 rfl rfl) ((sx.frames.length : Int) - 1) ({ x3 with at_ := (min (x3.at_ + 1) ((xq10x5_1.code.length : Int) - 1)) }) (o_idx e4).1 (set_at (o_idx e4).2) u8 e9 _ eq85x4_3) ?_
        rintro _ w ⟨kq85x4_8, uq85x4_4, uq85x4_6, usq85x4_5, usq85x4_7, rfl, hq85x4_9, hq85x4_10⟩
        refine ⟨_, rfl, ?_⟩
        replace h := h.back 1 (C := (.two (.two (.two (.two (.blk sb [vs0, vs1, (.int .i64 (sx.status)), (.int .i64 (sx.wher))]) (.own nFrame.raw 49 vs0 (List.zip (sx.frames.set (((sx.frames.length : Int) - 1)).toNat ({ x3 with at_ := (min (x3.at_ + 1) ((xq10x5_1.code.length : Int) - 1)) })) ws0))) (.pce (famS rVal 51 hn ws0 (List.map nFrame.sub (sx.frames.set (((sx.frames.length : Int) - 1)).toNat ({ x3 with at_ := (min (x3.at_ + 1) ((xq10x5_1.code.length : Int) - 1)) })))))) (.own (nLst Val).raw 47 vs1 (List.zip sx.cells ws1))) (.pce (famS rVal 51 hn ws1 (List.map (nLst Val).sub sx.cells))) : Chunk)) (C' := (.two (.two (.two (.two (.blk sb [uq85x4_4, uq85x4_6, (.int .i64 (yq85x4_2.2.status)), (.int .i64 (yq85x4_2.2.wher))]) (.own nFrame.raw 49 uq85x4_4 (List.zip yq85x4_2.2.frames usq85x4_5))) (.pce (famS rVal 51 hn usq85x4_5 (List.map nFrame.sub yq85x4_2.2.frames)))) (.own (nLst Val).raw 47 uq85x4_6 (List.zip yq85x4_2.2.cells usq85x4_7))) (.pce (famS rVal 51 hn usq85x4_7 (List.map (nLst Val).sub yq85x4_2.2.cells))) : Chunk)) rfl ⟨⟨⟨⟨trivial, trivial⟩, trivial⟩, trivial⟩, trivial⟩ hq85x4_9 kq85x4_8 hq85x4_10
        replace h := h.unpair 1 5 (by decide) rfl rfl
        replace h := h.unpair 1 4 (by decide) rfl rfl
        replace h := h.unpair 1 3 (by decide) rfl rfl
        replace h := h.unpair 1 2 (by decide) rfl rfl
        replace hg87 := Keep.step hg87 kq85x4_8 (fun _ hx _ => .inl (hx))
        refine wl_nil (whk_back hg87 (whk_eff 5 (by kernel_rfl) rfl want_none (w_stNG (vs := [(.bool (false)), (.int .i64 (0)), (.bool (false))]) h 7 [(.bool (false)), (.int .i64 (0)), (.bool (false))] rfl Many101 rfl rfl rfl rfl rfl (ones_cons rfl (ones_cons rfl (ones_cons rfl ones_nil))) fun w h kq85x5_1 => ?_)))
        replace hg87 := Keep.step hg87 kq85x5_1 (fun _ hx _ => .inr (hx))
        refine wl_nil (whk_back hg87 (whk_ok 6 hg87 rfl want_none (by kernel_rfl) (by kernel_rfl) (by kernel_rfl) (fun w hk => r_assign (v := (.bool (yq85x4_2.1))) rfl) (whk_done (by kernel_rfl) (then_normal (wc_ret (inBlock_ret (then_ret (fin_ct (vs := [(.bool (false)), (.int .i64 (0)), (.bool (false))]) (v2 := (.bool (yq85x4_2.1))) Tryz.results65 rfl rfl h 7 rfl Many101 rfl ?_))))))))
        replace h := h.pair 1 2 (by decide)
        replace h := h.pair 1 3 (by decide)
        replace h := h.pair 1 4 (by decide)
        replace h := h.pair 1 5 (by decide)
        obtain rfl := Option.some.inj hs
        subst hK0
        obtain ⟨o1, o2, o3⟩ := h.outS 1 (C := (.two (.two (.two (.two (.blk sb [uq85x4_4, uq85x4_6, (.int .i64 (yq85x4_2.2.status)), (.int .i64 (yq85x4_2.2.wher))]) (.own nFrame.raw 49 uq85x4_4 (List.zip yq85x4_2.2.frames usq85x4_5))) (.pce (famS rVal 51 hn usq85x4_5 (List.map nFrame.sub yq85x4_2.2.frames)))) (.own (nLst Val).raw 47 uq85x4_6 (List.zip yq85x4_2.2.cells usq85x4_7))) (.pce (famS rVal 51 hn usq85x4_7 (List.map (nLst Val).sub yq85x4_2.2.cells))) : Chunk)) rfl ⟨⟨⟨⟨trivial, trivial⟩, trivial⟩, trivial⟩, trivial⟩
        exact ⟨o2, uq85x4_4, uq85x4_6, usq85x4_5, usq85x4_7, rfl, o1, o3⟩
       ·
        replace h := h.pair 1 2 (by decide)
        replace h := h.pair 1 3 (by decide)
        replace h := h.pair 1 4 (by decide)
        replace h := h.pair 1 5 (by decide)
        obtain ⟨lq85x4_1a, lq85x4_1b, lq85x4_1c⟩ := h.lendS 1 (C := (.two (.two (.two (.two (.blk sb [vs0, vs1, (.int .i64 (sx.status)), (.int .i64 (sx.wher))]) (.own nFrame.raw 49 vs0 (List.zip (sx.frames.set (((sx.frames.length : Int) - 1)).toNat ({ x3 with at_ := (min (x3.at_ + 1) ((xq10x5_1.code.length : Int) - 1)) })) ws0))) (.pce (famS rVal 51 hn ws0 (List.map nFrame.sub (sx.frames.set (((sx.frames.length : Int) - 1)).toNat ({ x3 with at_ := (min (x3.at_ + 1) ((xq10x5_1.code.length : Int) - 1)) })))))) (.own (nLst Val).raw 47 vs1 (List.zip sx.cells ws1))) (.pce (famS rVal 51 hn ws1 (List.map (nLst Val).sub sx.cells))) : Chunk)) rfl ⟨⟨⟨⟨trivial, trivial⟩, trivial⟩, trivial⟩, trivial⟩
        refine w_call fnOk88 rfl rfl (vm_field_c _ _ lq85x4_1c sb (⟨(sx.frames.set (((sx.frames.length : Int) - 1)).toNat ({ x3 with at_ := (min (x3.at_ + 1) ((xq10x5_1.code.length : Int) - 1)) })), sx.cells, sx.status, sx.wher⟩ : LX.State) vs0 vs1 ws0 ws1 lq85x4_1a lq85x4_1b xq10x12_1 uq10x12_8 (h.rdC 1 154 rfl rfl) ((sx.frames.length : Int) - 1) ({ x3 with at_ := (min (x3.at_ + 1) ((xq10x5_1.code.length : Int) - 1)) }) (o_idx e4).1 (set_at (o_idx e4).2) u8 e9 _ eq85x4_3) ?_
        rintro _ w ⟨kq85x4_8, uq85x4_4, uq85x4_6, usq85x4_5, usq85x4_7, rfl, hq85x4_9, hq85x4_10⟩
        refine ⟨_, rfl, ?_⟩
        replace h := h.back 1 (C := (.two (.two (.two (.two (.blk sb [vs0, vs1, (.int .i64 (sx.status)), (.int .i64 (sx.wher))]) (.own nFrame.raw 49 vs0 (List.zip (sx.frames.set (((sx.frames.length : Int) - 1)).toNat ({ x3 with at_ := (min (x3.at_ + 1) ((xq10x5_1.code.length : Int) - 1)) })) ws0))) (.pce (famS rVal 51 hn ws0 (List.map nFrame.sub (sx.frames.set (((sx.frames.length : Int) - 1)).toNat ({ x3 with at_ := (min (x3.at_ + 1) ((xq10x5_1.code.length : Int) - 1)) })))))) (.own (nLst Val).raw 47 vs1 (List.zip sx.cells ws1))) (.pce (famS rVal 51 hn ws1 (List.map (nLst Val).sub sx.cells))) : Chunk)) (C' := (.two (.two (.two (.two (.blk sb [uq85x4_4, uq85x4_6, (.int .i64 (yq85x4_2.2.status)), (.int .i64 (yq85x4_2.2.wher))]) (.own nFrame.raw 49 uq85x4_4 (List.zip yq85x4_2.2.frames usq85x4_5))) (.pce (famS rVal 51 hn usq85x4_5 (List.map nFrame.sub yq85x4_2.2.frames)))) (.own (nLst Val).raw 47 uq85x4_6 (List.zip yq85x4_2.2.cells usq85x4_7))) (.pce (famS rVal 51 hn usq85x4_7 (List.map (nLst Val).sub yq85x4_2.2.cells))) : Chunk)) rfl ⟨⟨⟨⟨trivial, trivial⟩, trivial⟩, trivial⟩, trivial⟩ hq85x4_9 kq85x4_8 hq85x4_10
        replace h := h.unpair 1 5 (by decide) rfl rfl
        replace h := h.unpair 1 4 (by decide) rfl rfl
        replace h := h.unpair 1 3 (by decide) rfl rfl
        replace h := h.unpair 1 2 (by decide) rfl rfl
        replace hg87 := Keep.step hg87 kq85x4_8 (fun _ hx _ => .inl (hx))
        refine wl_nil (whk_back hg87 (whk_eff 0 (by kernel_rfl) rfl want_none (wl_ok (r_ldBN (vs := [(.bool (false)), (.int .i64 (0)), (.bool (false))]) h 7 rfl Many101 rfl rfl rfl) (wl_nil (whk_back hg87 (whk_eff 5 (by kernel_rfl) rfl want_none (w_stNG (vs := [(.bool (false)), (.int .i64 (0)), (.bool (false))]) h 7 [(.bool (false)), (.int .i64 (0)), (.bool (false))] rfl Many101 rfl rfl rfl rfl rfl (ones_cons rfl (ones_cons rfl (ones_cons rfl ones_nil))) fun w h kq85x5_1 => ?_)))))))
        replace hg87 := Keep.step hg87 kq85x5_1 (fun _ hx _ => .inr (hx))
        refine wl_nil (whk_back hg87 (whk_ok 6 hg87 rfl want_none (by kernel_rfl) (by kernel_rfl) (by kernel_rfl) (fun w hk => r_assign (v := (.bool (yq85x4_2.1))) rfl) (whk_done (by kernel_rfl) (then_normal (wc_ret (inBlock_ret (then_ret (fin_ct (vs := [(.bool (false)), (.int .i64 (0)), (.bool (false))]) (v2 := (.bool (yq85x4_2.1))) Tryz.results65 rfl rfl h 7 rfl Many101 rfl ?_))))))))
        replace h := h.pair 1 2 (by decide)
        replace h := h.pair 1 3 (by decide)
        replace h := h.pair 1 4 (by decide)
        replace h := h.pair 1 5 (by decide)
        obtain rfl := Option.some.inj hs
        subst hK0
        obtain ⟨o1, o2, o3⟩ := h.outS 1 (C := (.two (.two (.two (.two (.blk sb [uq85x4_4, uq85x4_6, (.int .i64 (yq85x4_2.2.status)), (.int .i64 (yq85x4_2.2.wher))]) (.own nFrame.raw 49 uq85x4_4 (List.zip yq85x4_2.2.frames usq85x4_5))) (.pce (famS rVal 51 hn usq85x4_5 (List.map nFrame.sub yq85x4_2.2.frames)))) (.own (nLst Val).raw 47 uq85x4_6 (List.zip yq85x4_2.2.cells usq85x4_7))) (.pce (famS rVal 51 hn usq85x4_7 (List.map (nLst Val).sub yq85x4_2.2.cells))) : Chunk)) rfl ⟨⟨⟨⟨trivial, trivial⟩, trivial⟩, trivial⟩, trivial⟩
        exact ⟨o2, uq85x4_4, uq85x4_6, usq85x4_5, usq85x4_7, rfl, o1, o3⟩
      ·
       refine wc_seq (wc_region (wl_ok (r_eql rfl rfl) (wl_ok (r_assign (v := (.bool (decide ((xq10x12_1.op : Int) = 5)))) rfl) (wl_nil (then_normal (wc_ifb hs rfl (fun c88 hs => ?_) (fun c88 hs => ?_)))))))
       ·
        refine wc_seq ?_
        replace h := h.dnClose0 3 8 rfl rfl (by decide) (set_at (o_idx e4).2) e9 rfl
        refine wck_held (L := (fun b => Chunk.own' (.two (.two (.two (.two (.blk sb [vs0, vs1, (.int .i64 (sx.status)), (.int .i64 (sx.wher))]) (.own nFrame.raw 49 vs0 (List.zip (sx.frames.set (((sx.frames.length : Int) - 1)).toNat ({ x3 with at_ := (min (x3.at_ + 1) ((xq10x5_1.code.length : Int) - 1)) })) ws0))) (.pce (famS rVal 51 hn ws0 (List.map nFrame.sub (sx.frames.set (((sx.frames.length : Int) - 1)).toNat ({ x3 with at_ := (min (x3.at_ + 1) ((xq10x5_1.code.length : Int) - 1)) })))))) (.own (nLst Val).raw 47 vs1 (List.zip sx.cells ws1))) (.pce (famS rVal 51 hn ws1 (List.map (nLst Val).sub sx.cells))) : Chunk) b ∨ b = b1)) mixed h fun w h => whk_ok 1 (Keep.refl _ _) rfl want_none (by kernel_rfl) (by kernel_rfl) (by kernel_rfl) (fun w hk => r_move (v := (.pointer (some ⟨sb, 0, none⟩))) rfl) (whk_ok 2 (Keep.refl _ _) rfl want_none (by kernel_rfl) (by kernel_rfl) (by kernel_rfl) (fun w hk => have h := ((((h.pair 1 2 (by decide)).pair 1 3 (by decide)).pair 1 4 (by decide)).pair 1 5 (by decide)).loseC2 1 7 (by decide) rfl rfl hk; r_ldBN (vs := [(.int .i64 (xq10x12_1.op)), (.int .i64 (xq10x12_1.a)), (.int .i64 (xq10x12_1.b)), (.int .i64 (xq10x12_1.c)), uq10x12_8]) h 177 rfl Many93 rfl rfl rfl) ?_)
        obtain ⟨yq99x3_2, eq99x3_3, hs⟩ := o_bind hs
        obtain ⟨ws100, ws100e⟩ : ∃ x, x = w := ⟨_, rfl⟩
        have hg101 : Keep (fun b => Chunk.own' (.two (.two (.two (.two (.blk sb [vs0, vs1, (.int .i64 (sx.status)), (.int .i64 (sx.wher))]) (.own nFrame.raw 49 vs0 (List.zip (sx.frames.set (((sx.frames.length : Int) - 1)).toNat ({ x3 with at_ := (min (x3.at_ + 1) ((xq10x5_1.code.length : Int) - 1)) })) ws0))) (.pce (famS rVal 51 hn ws0 (List.map nFrame.sub (sx.frames.set (((sx.frames.length : Int) - 1)).toNat ({ x3 with at_ := (min (x3.at_ + 1) ((xq10x5_1.code.length : Int) - 1)) })))))) (.own (nLst Val).raw 47 vs1 (List.zip sx.cells ws1))) (.pce (famS rVal 51 hn ws1 (List.map (nLst Val).sub sx.cells))) : Chunk) b ∨ b = b1) ws100 w := ws100e ▸ Keep.refl (fun b => Chunk.own' (.two (.two (.two (.two (.blk sb [vs0, vs1, (.int .i64 (sx.status)), (.int .i64 (sx.wher))]) (.own nFrame.raw 49 vs0 (List.zip (sx.frames.set (((sx.frames.length : Int) - 1)).toNat ({ x3 with at_ := (min (x3.at_ + 1) ((xq10x5_1.code.length : Int) - 1)) })) ws0))) (.pce (famS rVal 51 hn ws0 (List.map nFrame.sub (sx.frames.set (((sx.frames.length : Int) - 1)).toNat ({ x3 with at_ := (min (x3.at_ + 1) ((xq10x5_1.code.length : Int) - 1)) })))))) (.own (nLst Val).raw 47 vs1 (List.zip sx.cells ws1))) (.pce (famS rVal 51 hn ws1 (List.map (nLst Val).sub sx.cells))) : Chunk) b ∨ b = b1) w
        refine whk_at ws100e.symm (whk_eff2 0 3 (by kernel_rfl) rfl want_none rfl want_none ?_ ?_)
        ·
         refine wl_ok (r_ldBN (vs := [(.bool (false)), (.int .i64 (0)), (.bool (false))]) h 7 rfl Many101 rfl rfl rfl) (wl_nil (whk_back hg101 (whk_eff 3 (by kernel_rfl) rfl want_none ?_)))
         replace h := h.pair 1 2 (by decide)
         replace h := h.pair 1 3 (by decide)
         replace h := h.pair 1 4 (by decide)
         replace h := h.pair 1 5 (by decide)
         obtain ⟨lq99x3_1a, lq99x3_1b, lq99x3_1c⟩ := h.lendS 1 (C := (.two (.two (.two (.two (.blk sb [vs0, vs1, (.int .i64 (sx.status)), (.int .i64 (sx.wher))]) (.own nFrame.raw 49 vs0 (List.zip (sx.frames.set (((sx.frames.length : Int) - 1)).toNat ({ x3 with at_ := (min (x3.at_ + 1) ((xq10x5_1.code.length : Int) - 1)) })) ws0))) (.pce (famS rVal 51 hn ws0 (List.map nFrame.sub (sx.frames.set (((sx.frames.length : Int) - 1)).toNat ({ x3 with at_ := (min (x3.at_ + 1) ((xq10x5_1.code.length : Int) - 1)) })))))) (.own (nLst Val).raw 47 vs1 (List.zip sx.cells ws1))) (.pce (famS rVal 51 hn ws1 (List.map (nLst Val).sub sx.cells))) : Chunk)) rfl ⟨⟨⟨⟨trivial, trivial⟩, trivial⟩, trivial⟩, trivial⟩
         refine w_call fnOk89 rfl rfl (vm_fresh_c N _ _ lq99x3_1c sb (⟨(sx.frames.set (((sx.frames.length : Int) - 1)).toNat ({ x3 with at_ := (min (x3.at_ + 1) ((xq10x5_1.code.length : Int) - 1)) })), sx.cells, sx.status, sx.wher⟩ : LX.State) vs0 vs1 ws0 ws1 lq99x3_1a lq99x3_1b xq10x12_1 uq10x12_8 (h.rdC 1 154 rfl rfl) _ eq99x3_3) ?_
         rintro _ w ⟨kq99x3_8, uq99x3_4, uq99x3_6, usq99x3_5, usq99x3_7, rfl, hq99x3_9, hq99x3_10⟩
         refine ⟨_, rfl, ?_⟩
         replace h := h.back 1 (C := (.two (.two (.two (.two (.blk sb [vs0, vs1, (.int .i64 (sx.status)), (.int .i64 (sx.wher))]) (.own nFrame.raw 49 vs0 (List.zip (sx.frames.set (((sx.frames.length : Int) - 1)).toNat ({ x3 with at_ := (min (x3.at_ + 1) ((xq10x5_1.code.length : Int) - 1)) })) ws0))) (.pce (famS rVal 51 hn ws0 (List.map nFrame.sub (sx.frames.set (((sx.frames.length : Int) - 1)).toNat ({ x3 with at_ := (min (x3.at_ + 1) ((xq10x5_1.code.length : Int) - 1)) })))))) (.own (nLst Val).raw 47 vs1 (List.zip sx.cells ws1))) (.pce (famS rVal 51 hn ws1 (List.map (nLst Val).sub sx.cells))) : Chunk)) (C' := (.two (.two (.two (.two (.blk sb [uq99x3_4, uq99x3_6, (.int .i64 (yq99x3_2.2.status)), (.int .i64 (yq99x3_2.2.wher))]) (.own nFrame.raw 49 uq99x3_4 (List.zip yq99x3_2.2.frames usq99x3_5))) (.pce (famS rVal 51 hn usq99x3_5 (List.map nFrame.sub yq99x3_2.2.frames)))) (.own (nLst Val).raw 47 uq99x3_6 (List.zip yq99x3_2.2.cells usq99x3_7))) (.pce (famS rVal 51 hn usq99x3_7 (List.map (nLst Val).sub yq99x3_2.2.cells))) : Chunk)) rfl ⟨⟨⟨⟨trivial, trivial⟩, trivial⟩, trivial⟩, trivial⟩ hq99x3_9 kq99x3_8 hq99x3_10
         replace h := h.unpair 1 5 (by decide) rfl rfl
         replace h := h.unpair 1 4 (by decide) rfl rfl
         replace h := h.unpair 1 3 (by decide) rfl rfl
         replace h := h.unpair 1 2 (by decide) rfl rfl
         replace hg101 := Keep.step hg101 kq99x3_8 (fun _ hx _ => .inl (hx))
         refine wl_nil (whk_back hg101 (whk_eff 4 (by kernel_rfl) rfl want_none (w_stNG (vs := [(.bool (false)), (.int .i64 (0)), (.bool (false))]) h 7 [(.bool (false)), (.int .i64 (0)), (.bool (false))] rfl Many101 rfl rfl rfl rfl rfl (ones_cons rfl (ones_cons rfl (ones_cons rfl ones_nil))) fun w h kq99x4_1 => ?_)))
         replace hg101 := Keep.step hg101 kq99x4_1 (fun _ hx _ => .inr (hx))
         refine wl_nil (whk_back hg101 (whk_ok 5 hg101 rfl want_none (by kernel_rfl) (by kernel_rfl) (by kernel_rfl) (fun w hk => r_assign (v := (.bool (yq99x3_2.1))) rfl) (whk_done (by kernel_rfl) (then_normal (wc_ret (inBlock_ret (then_ret (fin_ct (vs := [(.bool (false)), (.int .i64 (0)), (.bool (false))]) (v2 := (.bool (yq99x3_2.1))) Tryz.results65 rfl rfl h 7 rfl Many101 rfl ?_))))))))
         replace h := h.pair 1 2 (by decide)
         replace h := h.pair 1 3 (by decide)
         replace h := h.pair 1 4 (by decide)
         replace h := h.pair 1 5 (by decide)
         obtain rfl := Option.some.inj hs
         subst hK0
         obtain ⟨o1, o2, o3⟩ := h.outS 1 (C := (.two (.two (.two (.two (.blk sb [uq99x3_4, uq99x3_6, (.int .i64 (yq99x3_2.2.status)), (.int .i64 (yq99x3_2.2.wher))]) (.own nFrame.raw 49 uq99x3_4 (List.zip yq99x3_2.2.frames usq99x3_5))) (.pce (famS rVal 51 hn usq99x3_5 (List.map nFrame.sub yq99x3_2.2.frames)))) (.own (nLst Val).raw 47 uq99x3_6 (List.zip yq99x3_2.2.cells usq99x3_7))) (.pce (famS rVal 51 hn usq99x3_7 (List.map (nLst Val).sub yq99x3_2.2.cells))) : Chunk)) rfl ⟨⟨⟨⟨trivial, trivial⟩, trivial⟩, trivial⟩, trivial⟩
         exact ⟨o2, uq99x3_4, uq99x3_6, usq99x3_5, usq99x3_7, rfl, o1, o3⟩
        ·
         replace h := h.pair 1 2 (by decide)
         replace h := h.pair 1 3 (by decide)
         replace h := h.pair 1 4 (by decide)
         replace h := h.pair 1 5 (by decide)
         obtain ⟨lq99x3_1a, lq99x3_1b, lq99x3_1c⟩ := h.lendS 1 (C := (.two (.two (.two (.two (.blk sb [vs0, vs1, (.int .i64 (sx.status)), (.int .i64 (sx.wher))]) (.own nFrame.raw 49 vs0 (List.zip (sx.frames.set (((sx.frames.length : Int) - 1)).toNat ({ x3 with at_ := (min (x3.at_ + 1) ((xq10x5_1.code.length : Int) - 1)) })) ws0))) (.pce (famS rVal 51 hn ws0 (List.map nFrame.sub (sx.frames.set (((sx.frames.length : Int) - 1)).toNat ({ x3 with at_ := (min (x3.at_ + 1) ((xq10x5_1.code.length : Int) - 1)) })))))) (.own (nLst Val).raw 47 vs1 (List.zip sx.cells ws1))) (.pce (famS rVal 51 hn ws1 (List.map (nLst Val).sub sx.cells))) : Chunk)) rfl ⟨⟨⟨⟨trivial, trivial⟩, trivial⟩, trivial⟩, trivial⟩
         refine w_call fnOk89 rfl rfl (vm_fresh_c N _ _ lq99x3_1c sb (⟨(sx.frames.set (((sx.frames.length : Int) - 1)).toNat ({ x3 with at_ := (min (x3.at_ + 1) ((xq10x5_1.code.length : Int) - 1)) })), sx.cells, sx.status, sx.wher⟩ : LX.State) vs0 vs1 ws0 ws1 lq99x3_1a lq99x3_1b xq10x12_1 uq10x12_8 (h.rdC 1 154 rfl rfl) _ eq99x3_3) ?_
         rintro _ w ⟨kq99x3_8, uq99x3_4, uq99x3_6, usq99x3_5, usq99x3_7, rfl, hq99x3_9, hq99x3_10⟩
         refine ⟨_, rfl, ?_⟩
         replace h := h.back 1 (C := (.two (.two (.two (.two (.blk sb [vs0, vs1, (.int .i64 (sx.status)), (.int .i64 (sx.wher))]) (.own nFrame.raw 49 vs0 (List.zip (sx.frames.set (((sx.frames.length : Int) - 1)).toNat ({ x3 with at_ := (min (x3.at_ + 1) ((xq10x5_1.code.length : Int) - 1)) })) ws0))) (.pce (famS rVal 51 hn ws0 (List.map nFrame.sub (sx.frames.set (((sx.frames.length : Int) - 1)).toNat ({ x3 with at_ := (min (x3.at_ + 1) ((xq10x5_1.code.length : Int) - 1)) })))))) (.own (nLst Val).raw 47 vs1 (List.zip sx.cells ws1))) (.pce (famS rVal 51 hn ws1 (List.map (nLst Val).sub sx.cells))) : Chunk)) (C' := (.two (.two (.two (.two (.blk sb [uq99x3_4, uq99x3_6, (.int .i64 (yq99x3_2.2.status)), (.int .i64 (yq99x3_2.2.wher))]) (.own nFrame.raw 49 uq99x3_4 (List.zip yq99x3_2.2.frames usq99x3_5))) (.pce (famS rVal 51 hn usq99x3_5 (List.map nFrame.sub yq99x3_2.2.frames)))) (.own (nLst Val).raw 47 uq99x3_6 (List.zip yq99x3_2.2.cells usq99x3_7))) (.pce (famS rVal 51 hn usq99x3_7 (List.map (nLst Val).sub yq99x3_2.2.cells))) : Chunk)) rfl ⟨⟨⟨⟨trivial, trivial⟩, trivial⟩, trivial⟩, trivial⟩ hq99x3_9 kq99x3_8 hq99x3_10
         replace h := h.unpair 1 5 (by decide) rfl rfl
         replace h := h.unpair 1 4 (by decide) rfl rfl
         replace h := h.unpair 1 3 (by decide) rfl rfl
         replace h := h.unpair 1 2 (by decide) rfl rfl
         replace hg101 := Keep.step hg101 kq99x3_8 (fun _ hx _ => .inl (hx))
         refine wl_nil (whk_back hg101 (whk_eff 0 (by kernel_rfl) rfl want_none (wl_ok (r_ldBN (vs := [(.bool (false)), (.int .i64 (0)), (.bool (false))]) h 7 rfl Many101 rfl rfl rfl) (wl_nil (whk_back hg101 (whk_eff 4 (by kernel_rfl) rfl want_none (w_stNG (vs := [(.bool (false)), (.int .i64 (0)), (.bool (false))]) h 7 [(.bool (false)), (.int .i64 (0)), (.bool (false))] rfl Many101 rfl rfl rfl rfl rfl (ones_cons rfl (ones_cons rfl (ones_cons rfl ones_nil))) fun w h kq99x4_1 => ?_)))))))
         replace hg101 := Keep.step hg101 kq99x4_1 (fun _ hx _ => .inr (hx))
         refine wl_nil (whk_back hg101 (whk_ok 5 hg101 rfl want_none (by kernel_rfl) (by kernel_rfl) (by kernel_rfl) (fun w hk => r_assign (v := (.bool (yq99x3_2.1))) rfl) (whk_done (by kernel_rfl) (then_normal (wc_ret (inBlock_ret (then_ret (fin_ct (vs := [(.bool (false)), (.int .i64 (0)), (.bool (false))]) (v2 := (.bool (yq99x3_2.1))) Tryz.results65 rfl rfl h 7 rfl Many101 rfl ?_))))))))
         replace h := h.pair 1 2 (by decide)
         replace h := h.pair 1 3 (by decide)
         replace h := h.pair 1 4 (by decide)
         replace h := h.pair 1 5 (by decide)
         obtain rfl := Option.some.inj hs
         subst hK0
         obtain ⟨o1, o2, o3⟩ := h.outS 1 (C := (.two (.two (.two (.two (.blk sb [uq99x3_4, uq99x3_6, (.int .i64 (yq99x3_2.2.status)), (.int .i64 (yq99x3_2.2.wher))]) (.own nFrame.raw 49 uq99x3_4 (List.zip yq99x3_2.2.frames usq99x3_5))) (.pce (famS rVal 51 hn usq99x3_5 (List.map nFrame.sub yq99x3_2.2.frames)))) (.own (nLst Val).raw 47 uq99x3_6 (List.zip yq99x3_2.2.cells usq99x3_7))) (.pce (famS rVal 51 hn usq99x3_7 (List.map (nLst Val).sub yq99x3_2.2.cells))) : Chunk)) rfl ⟨⟨⟨⟨trivial, trivial⟩, trivial⟩, trivial⟩, trivial⟩
         exact ⟨o2, uq99x3_4, uq99x3_6, usq99x3_5, usq99x3_7, rfl, o1, o3⟩
       ·
        refine wc_seq (wc_region (wl_ok (r_eql rfl rfl) (wl_ok (r_assign (v := (.bool (decide ((xq10x12_1.op : Int) = 7)))) rfl) (wl_nil (then_normal (wc_ifb hs rfl (fun c102 hs => ?_) (fun c102 hs => ?_)))))))
        ·
         refine wc_seq ?_
         replace h := h.dnClose0 3 8 rfl rfl (by decide) (set_at (o_idx e4).2) e9 rfl
         refine wck_held (L := (fun b => Chunk.own' (.two (.two (.two (.two (.blk sb [vs0, vs1, (.int .i64 (sx.status)), (.int .i64 (sx.wher))]) (.own nFrame.raw 49 vs0 (List.zip (sx.frames.set (((sx.frames.length : Int) - 1)).toNat ({ x3 with at_ := (min (x3.at_ + 1) ((xq10x5_1.code.length : Int) - 1)) })) ws0))) (.pce (famS rVal 51 hn ws0 (List.map nFrame.sub (sx.frames.set (((sx.frames.length : Int) - 1)).toNat ({ x3 with at_ := (min (x3.at_ + 1) ((xq10x5_1.code.length : Int) - 1)) })))))) (.own (nLst Val).raw 47 vs1 (List.zip sx.cells ws1))) (.pce (famS rVal 51 hn ws1 (List.map (nLst Val).sub sx.cells))) : Chunk) b ∨ b = b1)) mixed h fun w h => whk_ok 1 (Keep.refl _ _) rfl want_none (by kernel_rfl) (by kernel_rfl) (by kernel_rfl) (fun w hk => r_move (v := va) rfl) (whk_ok 2 (Keep.refl _ _) rfl want_none (by kernel_rfl) (by kernel_rfl) (by kernel_rfl) (fun w hk => r_move (v := (.pointer (some ⟨sb, 0, none⟩))) rfl) (whk_ok 3 (Keep.refl _ _) rfl want_none (by kernel_rfl) (by kernel_rfl) (by kernel_rfl) (fun w hk => have h := ((((h.pair 1 2 (by decide)).pair 1 3 (by decide)).pair 1 4 (by decide)).pair 1 5 (by decide)).loseC2 1 7 (by decide) rfl rfl hk; r_ldBN (vs := [(.int .i64 (xq10x12_1.op)), (.int .i64 (xq10x12_1.a)), (.int .i64 (xq10x12_1.b)), (.int .i64 (xq10x12_1.c)), uq10x12_8]) h 177 rfl Many93 rfl rfl rfl) ?_))
         obtain ⟨yq113x4_2, eq113x4_3, hs⟩ := o_bind hs
         obtain ⟨ws114, ws114e⟩ : ∃ x, x = w := ⟨_, rfl⟩
         have hg115 : Keep (fun b => Chunk.own' (.two (.two (.two (.two (.blk sb [vs0, vs1, (.int .i64 (sx.status)), (.int .i64 (sx.wher))]) (.own nFrame.raw 49 vs0 (List.zip (sx.frames.set (((sx.frames.length : Int) - 1)).toNat ({ x3 with at_ := (min (x3.at_ + 1) ((xq10x5_1.code.length : Int) - 1)) })) ws0))) (.pce (famS rVal 51 hn ws0 (List.map nFrame.sub (sx.frames.set (((sx.frames.length : Int) - 1)).toNat ({ x3 with at_ := (min (x3.at_ + 1) ((xq10x5_1.code.length : Int) - 1)) })))))) (.own (nLst Val).raw 47 vs1 (List.zip sx.cells ws1))) (.pce (famS rVal 51 hn ws1 (List.map (nLst Val).sub sx.cells))) : Chunk) b ∨ b = b1) ws114 w := ws114e ▸ Keep.refl (fun b => Chunk.own' (.two (.two (.two (.two (.blk sb [vs0, vs1, (.int .i64 (sx.status)), (.int .i64 (sx.wher))]) (.own nFrame.raw 49 vs0 (List.zip (sx.frames.set (((sx.frames.length : Int) - 1)).toNat ({ x3 with at_ := (min (x3.at_ + 1) ((xq10x5_1.code.length : Int) - 1)) })) ws0))) (.pce (famS rVal 51 hn ws0 (List.map nFrame.sub (sx.frames.set (((sx.frames.length : Int) - 1)).toNat ({ x3 with at_ := (min (x3.at_ + 1) ((xq10x5_1.code.length : Int) - 1)) })))))) (.own (nLst Val).raw 47 vs1 (List.zip sx.cells ws1))) (.pce (famS rVal 51 hn ws1 (List.map (nLst Val).sub sx.cells))) : Chunk) b ∨ b = b1) w
         refine whk_at ws114e.symm (whk_eff2 0 4 (by kernel_rfl) rfl want_none rfl want_none ?_ ?_)
         ·
          refine wl_ok (r_ldBN (vs := [(.bool (false)), (.int .i64 (0)), (.bool (false))]) h 7 rfl Many101 rfl rfl rfl) (wl_nil (whk_back hg115 (whk_eff 4 (by kernel_rfl) rfl want_none ?_)))
          replace h := h.pair 1 2 (by decide)
          replace h := h.pair 1 3 (by decide)
          replace h := h.pair 1 4 (by decide)
          replace h := h.pair 1 5 (by decide)
          obtain ⟨lq113x4_1a, lq113x4_1b, lq113x4_1c⟩ := h.lendS 1 (C := (.two (.two (.two (.two (.blk sb [vs0, vs1, (.int .i64 (sx.status)), (.int .i64 (sx.wher))]) (.own nFrame.raw 49 vs0 (List.zip (sx.frames.set (((sx.frames.length : Int) - 1)).toNat ({ x3 with at_ := (min (x3.at_ + 1) ((xq10x5_1.code.length : Int) - 1)) })) ws0))) (.pce (famS rVal 51 hn ws0 (List.map nFrame.sub (sx.frames.set (((sx.frames.length : Int) - 1)).toNat ({ x3 with at_ := (min (x3.at_ + 1) ((xq10x5_1.code.length : Int) - 1)) })))))) (.own (nLst Val).raw 47 vs1 (List.zip sx.cells ws1))) (.pce (famS rVal 51 hn ws1 (List.map (nLst Val).sub sx.cells))) : Chunk)) rfl ⟨⟨⟨⟨trivial, trivial⟩, trivial⟩, trivial⟩, trivial⟩
          refine w_call fnOk90 rfl rfl (vm_call_c _ _ lq113x4_1c sb (⟨(sx.frames.set (((sx.frames.length : Int) - 1)).toNat ({ x3 with at_ := (min (x3.at_ + 1) ((xq10x5_1.code.length : Int) - 1)) })), sx.cells, sx.status, sx.wher⟩ : LX.State) vs0 vs1 ws0 ws1 lq113x4_1a lq113x4_1b va a (h.rdC 1 6 rfl rfl) xq10x12_1 uq10x12_8 (h.rdC 1 154 rfl rfl) _ eq113x4_3) ?_
          rintro _ w ⟨kq113x4_8, uq113x4_4, uq113x4_6, usq113x4_5, usq113x4_7, rfl, hq113x4_9, hq113x4_10⟩
          refine ⟨_, rfl, ?_⟩
          replace h := h.back 1 (C := (.two (.two (.two (.two (.blk sb [vs0, vs1, (.int .i64 (sx.status)), (.int .i64 (sx.wher))]) (.own nFrame.raw 49 vs0 (List.zip (sx.frames.set (((sx.frames.length : Int) - 1)).toNat ({ x3 with at_ := (min (x3.at_ + 1) ((xq10x5_1.code.length : Int) - 1)) })) ws0))) (.pce (famS rVal 51 hn ws0 (List.map nFrame.sub (sx.frames.set (((sx.frames.length : Int) - 1)).toNat ({ x3 with at_ := (min (x3.at_ + 1) ((xq10x5_1.code.length : Int) - 1)) })))))) (.own (nLst Val).raw 47 vs1 (List.zip sx.cells ws1))) (.pce (famS rVal 51 hn ws1 (List.map (nLst Val).sub sx.cells))) : Chunk)) (C' := (.two (.two (.two (.two (.blk sb [uq113x4_4, uq113x4_6, (.int .i64 (yq113x4_2.2.status)), (.int .i64 (yq113x4_2.2.wher))]) (.own nFrame.raw 49 uq113x4_4 (List.zip yq113x4_2.2.frames usq113x4_5))) (.pce (famS rVal 51 hn usq113x4_5 (List.map nFrame.sub yq113x4_2.2.frames)))) (.own (nLst Val).raw 47 uq113x4_6 (List.zip yq113x4_2.2.cells usq113x4_7))) (.pce (famS rVal 51 hn usq113x4_7 (List.map (nLst Val).sub yq113x4_2.2.cells))) : Chunk)) rfl ⟨⟨⟨⟨trivial, trivial⟩, trivial⟩, trivial⟩, trivial⟩ hq113x4_9 kq113x4_8 hq113x4_10
          replace h := h.unpair 1 5 (by decide) rfl rfl
          replace h := h.unpair 1 4 (by decide) rfl rfl
          replace h := h.unpair 1 3 (by decide) rfl rfl
          replace h := h.unpair 1 2 (by decide) rfl rfl
          replace hg115 := Keep.step hg115 kq113x4_8 (fun _ hx _ => .inl (hx))
          refine wl_nil (whk_back hg115 (whk_eff 5 (by kernel_rfl) rfl want_none (w_stNG (vs := [(.bool (false)), (.int .i64 (0)), (.bool (false))]) h 7 [(.bool (false)), (.int .i64 (0)), (.bool (false))] rfl Many101 rfl rfl rfl rfl rfl (ones_cons rfl (ones_cons rfl (ones_cons rfl ones_nil))) fun w h kq113x5_1 => ?_)))
          replace hg115 := Keep.step hg115 kq113x5_1 (fun _ hx _ => .inr (hx))
          refine wl_nil (whk_back hg115 (whk_ok 6 hg115 rfl want_none (by kernel_rfl) (by kernel_rfl) (by kernel_rfl) (fun w hk => r_assign (v := (.bool (yq113x4_2.1))) rfl) (whk_done (by kernel_rfl) (then_normal (wc_ret (inBlock_ret (then_ret (fin_ct (vs := [(.bool (false)), (.int .i64 (0)), (.bool (false))]) (v2 := (.bool (yq113x4_2.1))) Tryz.results65 rfl rfl h 7 rfl Many101 rfl ?_))))))))
          replace h := h.pair 1 2 (by decide)
          replace h := h.pair 1 3 (by decide)
          replace h := h.pair 1 4 (by decide)
          replace h := h.pair 1 5 (by decide)
          obtain rfl := Option.some.inj hs
          subst hK0
          obtain ⟨o1, o2, o3⟩ := h.outS 1 (C := (.two (.two (.two (.two (.blk sb [uq113x4_4, uq113x4_6, (.int .i64 (yq113x4_2.2.status)), (.int .i64 (yq113x4_2.2.wher))]) (.own nFrame.raw 49 uq113x4_4 (List.zip yq113x4_2.2.frames usq113x4_5))) (.pce (famS rVal 51 hn usq113x4_5 (List.map nFrame.sub yq113x4_2.2.frames)))) (.own (nLst Val).raw 47 uq113x4_6 (List.zip yq113x4_2.2.cells usq113x4_7))) (.pce (famS rVal 51 hn usq113x4_7 (List.map (nLst Val).sub yq113x4_2.2.cells))) : Chunk)) rfl ⟨⟨⟨⟨trivial, trivial⟩, trivial⟩, trivial⟩, trivial⟩
          exact ⟨o2, uq113x4_4, uq113x4_6, usq113x4_5, usq113x4_7, rfl, o1, o3⟩
         ·
          replace h := h.pair 1 2 (by decide)
          replace h := h.pair 1 3 (by decide)
          replace h := h.pair 1 4 (by decide)
          replace h := h.pair 1 5 (by decide)
          obtain ⟨lq113x4_1a, lq113x4_1b, lq113x4_1c⟩ := h.lendS 1 (C := (.two (.two (.two (.two (.blk sb [vs0, vs1, (.int .i64 (sx.status)), (.int .i64 (sx.wher))]) (.own nFrame.raw 49 vs0 (List.zip (sx.frames.set (((sx.frames.length : Int) - 1)).toNat ({ x3 with at_ := (min (x3.at_ + 1) ((xq10x5_1.code.length : Int) - 1)) })) ws0))) (.pce (famS rVal 51 hn ws0 (List.map nFrame.sub (sx.frames.set (((sx.frames.length : Int) - 1)).toNat ({ x3 with at_ := (min (x3.at_ + 1) ((xq10x5_1.code.length : Int) - 1)) })))))) (.own (nLst Val).raw 47 vs1 (List.zip sx.cells ws1))) (.pce (famS rVal 51 hn ws1 (List.map (nLst Val).sub sx.cells))) : Chunk)) rfl ⟨⟨⟨⟨trivial, trivial⟩, trivial⟩, trivial⟩, trivial⟩
          refine w_call fnOk90 rfl rfl (vm_call_c _ _ lq113x4_1c sb (⟨(sx.frames.set (((sx.frames.length : Int) - 1)).toNat ({ x3 with at_ := (min (x3.at_ + 1) ((xq10x5_1.code.length : Int) - 1)) })), sx.cells, sx.status, sx.wher⟩ : LX.State) vs0 vs1 ws0 ws1 lq113x4_1a lq113x4_1b va a (h.rdC 1 6 rfl rfl) xq10x12_1 uq10x12_8 (h.rdC 1 154 rfl rfl) _ eq113x4_3) ?_
          rintro _ w ⟨kq113x4_8, uq113x4_4, uq113x4_6, usq113x4_5, usq113x4_7, rfl, hq113x4_9, hq113x4_10⟩
          refine ⟨_, rfl, ?_⟩
          replace h := h.back 1 (C := (.two (.two (.two (.two (.blk sb [vs0, vs1, (.int .i64 (sx.status)), (.int .i64 (sx.wher))]) (.own nFrame.raw 49 vs0 (List.zip (sx.frames.set (((sx.frames.length : Int) - 1)).toNat ({ x3 with at_ := (min (x3.at_ + 1) ((xq10x5_1.code.length : Int) - 1)) })) ws0))) (.pce (famS rVal 51 hn ws0 (List.map nFrame.sub (sx.frames.set (((sx.frames.length : Int) - 1)).toNat ({ x3 with at_ := (min (x3.at_ + 1) ((xq10x5_1.code.length : Int) - 1)) })))))) (.own (nLst Val).raw 47 vs1 (List.zip sx.cells ws1))) (.pce (famS rVal 51 hn ws1 (List.map (nLst Val).sub sx.cells))) : Chunk)) (C' := (.two (.two (.two (.two (.blk sb [uq113x4_4, uq113x4_6, (.int .i64 (yq113x4_2.2.status)), (.int .i64 (yq113x4_2.2.wher))]) (.own nFrame.raw 49 uq113x4_4 (List.zip yq113x4_2.2.frames usq113x4_5))) (.pce (famS rVal 51 hn usq113x4_5 (List.map nFrame.sub yq113x4_2.2.frames)))) (.own (nLst Val).raw 47 uq113x4_6 (List.zip yq113x4_2.2.cells usq113x4_7))) (.pce (famS rVal 51 hn usq113x4_7 (List.map (nLst Val).sub yq113x4_2.2.cells))) : Chunk)) rfl ⟨⟨⟨⟨trivial, trivial⟩, trivial⟩, trivial⟩, trivial⟩ hq113x4_9 kq113x4_8 hq113x4_10
          replace h := h.unpair 1 5 (by decide) rfl rfl
          replace h := h.unpair 1 4 (by decide) rfl rfl
          replace h := h.unpair 1 3 (by decide) rfl rfl
          replace h := h.unpair 1 2 (by decide) rfl rfl
          replace hg115 := Keep.step hg115 kq113x4_8 (fun _ hx _ => .inl (hx))
          refine wl_nil (whk_back hg115 (whk_eff 0 (by kernel_rfl) rfl want_none (wl_ok (r_ldBN (vs := [(.bool (false)), (.int .i64 (0)), (.bool (false))]) h 7 rfl Many101 rfl rfl rfl) (wl_nil (whk_back hg115 (whk_eff 5 (by kernel_rfl) rfl want_none (w_stNG (vs := [(.bool (false)), (.int .i64 (0)), (.bool (false))]) h 7 [(.bool (false)), (.int .i64 (0)), (.bool (false))] rfl Many101 rfl rfl rfl rfl rfl (ones_cons rfl (ones_cons rfl (ones_cons rfl ones_nil))) fun w h kq113x5_1 => ?_)))))))
          replace hg115 := Keep.step hg115 kq113x5_1 (fun _ hx _ => .inr (hx))
          refine wl_nil (whk_back hg115 (whk_ok 6 hg115 rfl want_none (by kernel_rfl) (by kernel_rfl) (by kernel_rfl) (fun w hk => r_assign (v := (.bool (yq113x4_2.1))) rfl) (whk_done (by kernel_rfl) (then_normal (wc_ret (inBlock_ret (then_ret (fin_ct (vs := [(.bool (false)), (.int .i64 (0)), (.bool (false))]) (v2 := (.bool (yq113x4_2.1))) Tryz.results65 rfl rfl h 7 rfl Many101 rfl ?_))))))))
          replace h := h.pair 1 2 (by decide)
          replace h := h.pair 1 3 (by decide)
          replace h := h.pair 1 4 (by decide)
          replace h := h.pair 1 5 (by decide)
          obtain rfl := Option.some.inj hs
          subst hK0
          obtain ⟨o1, o2, o3⟩ := h.outS 1 (C := (.two (.two (.two (.two (.blk sb [uq113x4_4, uq113x4_6, (.int .i64 (yq113x4_2.2.status)), (.int .i64 (yq113x4_2.2.wher))]) (.own nFrame.raw 49 uq113x4_4 (List.zip yq113x4_2.2.frames usq113x4_5))) (.pce (famS rVal 51 hn usq113x4_5 (List.map nFrame.sub yq113x4_2.2.frames)))) (.own (nLst Val).raw 47 uq113x4_6 (List.zip yq113x4_2.2.cells usq113x4_7))) (.pce (famS rVal 51 hn usq113x4_7 (List.map (nLst Val).sub yq113x4_2.2.cells))) : Chunk)) rfl ⟨⟨⟨⟨trivial, trivial⟩, trivial⟩, trivial⟩, trivial⟩
          exact ⟨o2, uq113x4_4, uq113x4_6, usq113x4_5, usq113x4_7, rfl, o1, o3⟩
        ·
         refine wc_seq (wc_region (wl_ok (r_eql rfl rfl) (wl_ok (r_assign (v := (.bool (decide ((xq10x12_1.op : Int) = 8)))) rfl) (wl_nil (then_normal (wc_ifb hs rfl (fun c116 hs => ?_) (fun c116 hs => ?_)))))))
         ·
          refine wc_tail 10 mixed (by kernel_rfl) h fun w h => wk_ok (r_move (v := (.pointer (some ⟨sb, 0, none⟩))) rfl) (wk_ok (r_move (v := u8) rfl) (wk_ok (r_fieldAddr Fld93x1 rfl) (wk_ok (r_ldB h 177 rfl One3 rfl rfl) ?_)))
          obtain ⟨x117, e118, hs⟩ := o_bind hs
          obtain ⟨b120, q121, i119⟩ := h.ixO 8 rfl SliceOf47 rfl (o_idx e118).1 (o_idx e118).2
          refine wk_ok (i119 _ _ _ _ _ _ _ _ _ rfl rfl) ?_
          obtain ⟨cs122, m123, r124⟩ := h.elO 8 rfl q121 (o_idx e118).2
          obtain rfl := r124
          refine wk_ok (r_ldAN (k := 0) (vs := [(.int .i64 (x117.kind)), (.int .i64 (x117.n))]) m123 Many51 rfl rfl rfl (Nat.le_of_ble_eq_true rfl)) (wk_ok (r_move (v := (.pointer (some ⟨b6, (((sx.frames.length : Int) - 1)).toNat * 4, none⟩))) rfl) (wk_ok (r_nilCheck rfl) (wk_ok (r_fieldAddr Fld49x3 rfl) ?_)))
          obtain ⟨cs125, m126, r127⟩ := h.elO 2 rfl q7 (zip_at (set_at (o_idx e4).2) e9)
          obtain ⟨rfl, -⟩ := r127
          refine wk_ok (r_ldA (k := 3) m126 One3 rfl rfl) (wk_go ?_)
          replace h := h.dnClose0 3 8 rfl rfl (by decide) (set_at (o_idx e4).2) e9 rfl
          replace h := h.pair 1 2 (by decide)
          replace h := h.pair 1 3 (by decide)
          replace h := h.pair 1 4 (by decide)
          replace h := h.pair 1 5 (by decide)
          obtain ⟨l128a, l128b, l128c⟩ := h.lendS 1 (C := (.two (.two (.two (.two (.blk sb [vs0, vs1, (.int .i64 (sx.status)), (.int .i64 (sx.wher))]) (.own nFrame.raw 49 vs0 (List.zip (sx.frames.set (((sx.frames.length : Int) - 1)).toNat ({ x3 with at_ := (min (x3.at_ + 1) ((xq10x5_1.code.length : Int) - 1)) })) ws0))) (.pce (famS rVal 51 hn ws0 (List.map nFrame.sub (sx.frames.set (((sx.frames.length : Int) - 1)).toNat ({ x3 with at_ := (min (x3.at_ + 1) ((xq10x5_1.code.length : Int) - 1)) })))))) (.own (nLst Val).raw 47 vs1 (List.zip sx.cells ws1))) (.pce (famS rVal 51 hn ws1 (List.map (nLst Val).sub sx.cells))) : Chunk)) rfl ⟨⟨⟨⟨trivial, trivial⟩, trivial⟩, trivial⟩, trivial⟩
          obtain ⟨y129, e130, hs⟩ := o_bind hs
          refine w_call fnOk91 rfl rfl (vm_back_c _ _ l128c sb (⟨(sx.frames.set (((sx.frames.length : Int) - 1)).toNat ({ x3 with at_ := (min (x3.at_ + 1) ((xq10x5_1.code.length : Int) - 1)) })), sx.cells, sx.status, sx.wher⟩ : LX.State) vs0 vs1 ws0 ws1 l128a l128b x117 x3.to_ _ e130) ?_
          rintro _ w ⟨k135, u131, u133, us132, us134, rfl, h136, h137⟩
          refine ⟨_, rfl, ?_⟩
          replace h := h.back 1 (C := (.two (.two (.two (.two (.blk sb [vs0, vs1, (.int .i64 (sx.status)), (.int .i64 (sx.wher))]) (.own nFrame.raw 49 vs0 (List.zip (sx.frames.set (((sx.frames.length : Int) - 1)).toNat ({ x3 with at_ := (min (x3.at_ + 1) ((xq10x5_1.code.length : Int) - 1)) })) ws0))) (.pce (famS rVal 51 hn ws0 (List.map nFrame.sub (sx.frames.set (((sx.frames.length : Int) - 1)).toNat ({ x3 with at_ := (min (x3.at_ + 1) ((xq10x5_1.code.length : Int) - 1)) })))))) (.own (nLst Val).raw 47 vs1 (List.zip sx.cells ws1))) (.pce (famS rVal 51 hn ws1 (List.map (nLst Val).sub sx.cells))) : Chunk)) (C' := (.two (.two (.two (.two (.blk sb [u131, u133, (.int .i64 (y129.status)), (.int .i64 (y129.wher))]) (.own nFrame.raw 49 u131 (List.zip y129.frames us132))) (.pce (famS rVal 51 hn us132 (List.map nFrame.sub y129.frames)))) (.own (nLst Val).raw 47 u133 (List.zip y129.cells us134))) (.pce (famS rVal 51 hn us134 (List.map (nLst Val).sub y129.cells))) : Chunk)) rfl ⟨⟨⟨⟨trivial, trivial⟩, trivial⟩, trivial⟩, trivial⟩ h136 k135 h137
          replace h := h.unpair 1 5 (by decide) rfl rfl
          replace h := h.unpair 1 4 (by decide) rfl rfl
          replace h := h.unpair 1 3 (by decide) rfl rfl
          replace h := h.unpair 1 2 (by decide) rfl rfl
          refine wl_nil (inBlock_normal (then_loop ?_))
          exact jend (false, u131, us132, y129.frames, u133, us134, y129.cells, y129.status, y129.wher) ⟨h.cn _, hs⟩
         ·
          refine wc_seq (wc_region (wl_ok (r_eql rfl rfl) (wl_ok (r_assign (v := (.bool (decide ((xq10x12_1.op : Int) = 9)))) rfl) (wl_nil (then_normal (wc_ifb hs rfl (fun c138 hs => ?_) (fun c138 hs => ?_)))))))
          ·
           refine wc_seq (wck_held (L := (fun x => x = b1)) mixed h fun w h => whk_ok 0 (Keep.refl _ _) rfl want_none (by kernel_rfl) (by kernel_rfl) (by kernel_rfl) (fun w hk => r_move (v := u8) rfl) (whk_ok 1 (Keep.refl _ _) rfl want_none (by kernel_rfl) (by kernel_rfl) (by kernel_rfl) (fun w hk => r_fieldAddr Fld93x1 rfl) (whk_ok 2 (Keep.refl _ _) rfl want_none (by kernel_rfl) (by kernel_rfl) (by kernel_rfl) (fun w hk => have h := h.loseC 7 rfl hk; r_ldB h 177 rfl One3 rfl rfl) ?_)))
           obtain ⟨xq142x3_1, eq142x3_2, hs⟩ := o_bind hs
           obtain ⟨bq142x3_4, qq142x3_5, iq142x3_3⟩ := h.ixO 8 rfl SliceOf47 rfl (o_idx eq142x3_2).1 (o_idx eq142x3_2).2
           refine whk_ok 3 (Keep.refl _ _) rfl want_none (by kernel_rfl) (by kernel_rfl) (by kernel_rfl) (fun w hk => iq142x3_3 _ _ _ _ _ _ _ _ _ rfl rfl) (whk_ok 4 (Keep.refl _ _) rfl want_none (by kernel_rfl) (by kernel_rfl) (by kernel_rfl) (fun w hk => r_fieldAddr Fld51x1 rfl) ?_)
           obtain ⟨csq142x5_1, mq142x5_2, rq142x5_3⟩ := h.elO 8 rfl qq142x3_5 (o_idx eq142x3_2).2
           obtain rfl := rq142x5_3
           have nq142x5_4 : ¬ (_ = b1) := (h.apart 8 7 (by decide) _ qq142x3_5)
           refine whk_ok 5 (Keep.refl _ _) rfl want_none (by kernel_rfl) (by kernel_rfl) (by kernel_rfl) (fun w hk => have h := h.loseC 7 rfl hk; r_ldA (k := 1) (mq142x5_2.hold hk nq142x5_4) One3 rfl rfl) (whk_ok 6 (Keep.refl _ _) rfl want_none (by kernel_rfl) (by kernel_rfl) (by kernel_rfl) (fun w hk => r_build (pv := [(0, (.bool (true))), (1, (.int .i64 (xq142x3_1.n)))]) (out := [(.bool (true)), (.int .i64 (xq142x3_1.n)), (.bool (false))]) Struct101 rfl ⟨0, 1, [(.bool (true))], rfl, rfl, rfl, Nat.le_of_ble_eq_true rfl, ⟨1, 1, [(.int .i64 (xq142x3_1.n))], rfl, rfl, rfl, Nat.le_of_ble_eq_true rfl, rfl⟩⟩) (whk_ok 7 (Keep.refl _ _) rfl want_none (by kernel_rfl) (by kernel_rfl) (by kernel_rfl) (fun w hk => r_move (v := u8) rfl) (whk_ok 8 (Keep.refl _ _) rfl want_none (by kernel_rfl) (by kernel_rfl) (by kernel_rfl) (fun w hk => r_fieldAddr Fld93x1 rfl) (whk_ok 9 (Keep.refl _ _) rfl want_none (by kernel_rfl) (by kernel_rfl) (by kernel_rfl) (fun w hk => have h := h.loseC 7 rfl hk; r_ldB h 177 rfl One3 rfl rfl) ?_))))
           obtain ⟨bq142x10_2, qq142x10_3, iq142x10_1⟩ := h.ixO 8 rfl SliceOf47 rfl (o_idx eq142x3_2).1 (o_idx eq142x3_2).2
           refine whk_ok 10 (Keep.refl _ _) rfl want_none (by kernel_rfl) (by kernel_rfl) (by kernel_rfl) (fun w hk => iq142x10_1 _ _ _ _ _ _ _ _ _ rfl rfl) (whk_ok 11 (Keep.refl _ _) rfl want_none (by kernel_rfl) (by kernel_rfl) (by kernel_rfl) (fun w hk => r_fieldAddr Fld51x0 rfl) ?_)
           obtain ⟨csq142x12_1, mq142x12_2, rq142x12_3⟩ := h.elO 8 rfl qq142x10_3 (o_idx eq142x3_2).2
           obtain rfl := rq142x12_3
           have nq142x12_4 : ¬ (_ = b1) := (h.apart 8 7 (by decide) _ qq142x10_3)
           refine whk_ok 12 (Keep.refl _ _) rfl want_none (by kernel_rfl) (by kernel_rfl) (by kernel_rfl) (fun w hk => have h := h.loseC 7 rfl hk; r_ldA (k := 0) (mq142x12_2.hold hk nq142x12_4) One3 rfl rfl) (whk_ok 13 (Keep.refl _ _) rfl want_none (by kernel_rfl) (by kernel_rfl) (by kernel_rfl) (fun w hk => r_eql rfl rfl) ?_)
           obtain ⟨ws143, ws143e⟩ : ∃ x, x = w := ⟨_, rfl⟩
           have hg144 : Keep (fun x => x = b1) ws143 w := ws143e ▸ Keep.refl (fun x => x = b1) w
           refine whk_at ws143e.symm (whk_eff 14 (by kernel_rfl) rfl want_none (w_stNG (vs := [(.bool (true)), (.int .i64 (xq142x3_1.n)), (.bool (false))]) h 7 [(.bool (true)), (.int .i64 (xq142x3_1.n)), (.bool (false))] rfl Many101 rfl rfl rfl rfl rfl (ones_cons rfl (ones_cons rfl (ones_cons rfl ones_nil))) fun w h kq142x14_1 => ?_))
           replace hg144 := hg144.same kq142x14_1
           refine wl_nil (whk_back hg144 (whk_ok 15 hg144 rfl want_none (by kernel_rfl) (by kernel_rfl) (by kernel_rfl) (fun w hk => r_assign (v := (.bool (decide ((xq142x3_1.kind : Int) = 1)))) rfl) (whk_done (by kernel_rfl) (then_normal (wc_ret (inBlock_ret (then_ret (fin_ct (vs := [(.bool (true)), (.int .i64 (xq142x3_1.n)), (.bool (false))]) (v2 := (.bool (decide ((xq142x3_1.kind : Int) = 1)))) Tryz.results65 rfl rfl h 7 rfl Many101 rfl ?_))))))))
           replace h := h.dnClose0 3 8 rfl rfl (by decide) (set_at (o_idx e4).2) e9 rfl
           replace h := h.pair 1 2 (by decide)
           replace h := h.pair 1 3 (by decide)
           replace h := h.pair 1 4 (by decide)
           replace h := h.pair 1 5 (by decide)
           obtain rfl := Option.some.inj hs
           subst hK0
           obtain ⟨o1, o2, o3⟩ := h.outS 1 (C := (.two (.two (.two (.two (.blk sb [vs0, vs1, (.int .i64 (sx.status)), (.int .i64 (sx.wher))]) (.own nFrame.raw 49 vs0 (List.zip (sx.frames.set (((sx.frames.length : Int) - 1)).toNat ({ x3 with at_ := (min (x3.at_ + 1) ((xq10x5_1.code.length : Int) - 1)) })) ws0))) (.pce (famS rVal 51 hn ws0 (List.map nFrame.sub (sx.frames.set (((sx.frames.length : Int) - 1)).toNat ({ x3 with at_ := (min (x3.at_ + 1) ((xq10x5_1.code.length : Int) - 1)) })))))) (.own (nLst Val).raw 47 vs1 (List.zip sx.cells ws1))) (.pce (famS rVal 51 hn ws1 (List.map (nLst Val).sub sx.cells))) : Chunk)) rfl ⟨⟨⟨⟨trivial, trivial⟩, trivial⟩, trivial⟩, trivial⟩
           exact ⟨o2, vs0, vs1, ws0, ws1, rfl, o1, o3⟩
          ·
           refine wc_seq (wc_region (wl_ok (r_eql rfl rfl) (wl_ok (r_assign (v := (.bool (decide ((xq10x12_1.op : Int) = 10)))) rfl) (wl_nil (then_normal (wc_ifb hs rfl (fun c145 hs => ?_) (fun c145 hs => ?_)))))))
           ·
            refine wc_region (wl_ok (r_fieldAddr Fld101x2 rfl) (w_st1 h 7 [(.bool (false)), (.int .i64 (0)), (.bool (true))] rfl One4 rfl rfl rfl rfl rfl fun w h => wl_nil (inBlock_normal ?_)))
            replace h := h.dnClose0 3 8 rfl rfl (by decide) (set_at (o_idx e4).2) e9 rfl
            refine then_loop ?_
            exact jend (true, vs0, ws0, (sx.frames.set (((sx.frames.length : Int) - 1)).toNat ({ x3 with at_ := (min (x3.at_ + 1) ((xq10x5_1.code.length : Int) - 1)) })), vs1, ws1, sx.cells, sx.status, sx.wher) ⟨h.cn _, hs⟩
           ·
            refine wc_seq (wc_region (wl_ok (r_eql rfl rfl) (wl_ok (r_assign (v := (.bool (decide ((xq10x12_1.op : Int) = 11)))) rfl) (wl_nil (then_normal (wc_ifb hs rfl (fun c146 hs => ?_) (fun c146 hs => ?_)))))))
            ·
             refine wc_seq (wc_seq (wc_region (wl_ok (r_move (v := u8) rfl) (wl_ok (r_fieldAddr Fld93x1 rfl) (wl_ok (r_ldB h 177 rfl One3 rfl rfl) ?_)))))
             obtain ⟨x147, e148, hs⟩ := o_bind hs
             obtain ⟨b150, q151, i149⟩ := h.ixO 8 rfl SliceOf47 rfl (o_idx e148).1 (o_idx e148).2
             refine wl_ok (i149 _ _ _ _ _ _ _ _ _ rfl rfl) (wl_ok (r_fieldAddr Fld51x0 rfl) ?_)
             obtain ⟨cs152, m153, r154⟩ := h.elO 8 rfl q151 (o_idx e148).2
             obtain rfl := r154
             refine wl_ok (r_ldA (k := 0) m153 One3 rfl rfl) (wl_ok (r_neq rfl rfl) (wl_nil (then_normal (wc_ifb hs rfl (fun c155 hs => ?_) (fun c155 hs => ?_)))))
             ·
              refine wc_seq (wc_region (wl_ok (r_ldBN (vs := [(.bool (false)), (.int .i64 (0)), (.bool (false))]) h 7 rfl Many101 rfl rfl rfl) (w_stN (vs := [(.bool (false)), (.int .i64 (0)), (.bool (false))]) h 7 [(.bool (false)), (.int .i64 (0)), (.bool (false))] rfl Many101 rfl rfl rfl rfl rfl (ones_cons rfl (ones_cons rfl (ones_cons rfl ones_nil))) fun w h => wl_ok (r_assign (v := (.bool (false))) rfl) (wl_nil (then_normal (wc_ret (then_ret (inBlock_ret (then_ret (fin_ct (vs := [(.bool (false)), (.int .i64 (0)), (.bool (false))]) (v2 := (.bool (false))) Tryz.results65 rfl rfl h 7 rfl Many101 rfl ?_))))))))))
              replace h := h.dnClose0 3 8 rfl rfl (by decide) (set_at (o_idx e4).2) e9 rfl
              replace h := h.pair 1 2 (by decide)
              replace h := h.pair 1 3 (by decide)
              replace h := h.pair 1 4 (by decide)
              replace h := h.pair 1 5 (by decide)
              obtain rfl := Option.some.inj hs
              subst hK0
              obtain ⟨o1, o2, o3⟩ := h.outS 1 (C := (.two (.two (.two (.two (.blk sb [vs0, vs1, (.int .i64 (sx.status)), (.int .i64 (sx.wher))]) (.own nFrame.raw 49 vs0 (List.zip (sx.frames.set (((sx.frames.length : Int) - 1)).toNat ({ x3 with at_ := (min (x3.at_ + 1) ((xq10x5_1.code.length : Int) - 1)) })) ws0))) (.pce (famS rVal 51 hn ws0 (List.map nFrame.sub (sx.frames.set (((sx.frames.length : Int) - 1)).toNat ({ x3 with at_ := (min (x3.at_ + 1) ((xq10x5_1.code.length : Int) - 1)) })))))) (.own (nLst Val).raw 47 vs1 (List.zip sx.cells ws1))) (.pce (famS rVal 51 hn ws1 (List.map (nLst Val).sub sx.cells))) : Chunk)) rfl ⟨⟨⟨⟨trivial, trivial⟩, trivial⟩, trivial⟩, trivial⟩
              exact ⟨o2, vs0, vs1, ws0, ws1, rfl, o1, o3⟩
             ·
              refine wc_skip (then_normal (wc_region (wl_ok (r_move (v := (.pointer (some ⟨sb, 0, none⟩))) rfl) (wl_ok (r_move (v := (.pointer (some ⟨sb, 0, none⟩))) rfl) (wl_ok (r_move (v := u8) rfl) (wl_ok (r_fieldAddr Fld93x1 rfl) (wl_ok (r_ldB h 177 rfl One3 rfl rfl) ?_)))))))
              obtain ⟨b157, q158, i156⟩ := h.ixO 8 rfl SliceOf47 rfl (o_idx e148).1 (o_idx e148).2
              refine wl_ok (i156 _ _ _ _ _ _ _ _ _ rfl rfl) (wl_ok (r_fieldAddr Fld51x1 rfl) ?_)
              obtain ⟨cs159, m160, r161⟩ := h.elO 8 rfl q158 (o_idx e148).2
              obtain rfl := r161
              refine wl_ok (r_ldA (k := 1) m160 One3 rfl rfl) (wl_ok (r_nilCheck rfl) (wl_ok (r_fieldAddr Fld26x2 rfl) (w_st1 h 1 [vs0, vs1, (.int .i64 (3)), (.int .i64 (sx.wher))] rfl One3 rfl rfl rfl rfl rfl fun w h => wl_ok (r_nilCheck rfl) (wl_ok (r_fieldAddr Fld26x3 rfl) (w_st1 h 1 [vs0, vs1, (.int .i64 (3)), (.int .i64 (x147.n))] rfl One3 rfl rfl rfl rfl rfl fun w h => wl_ok (r_fieldAddr Fld101x2 rfl) (w_st1 h 7 [(.bool (false)), (.int .i64 (0)), (.bool (true))] rfl One4 rfl rfl rfl rfl rfl fun w h => wl_nil (inBlock_normal ?_)))))))
              replace h := h.dnClose0 3 8 rfl rfl (by decide) (set_at (o_idx e4).2) e9 rfl
              refine then_loop ?_
              exact jend (true, vs0, ws0, (sx.frames.set (((sx.frames.length : Int) - 1)).toNat ({ x3 with at_ := (min (x3.at_ + 1) ((xq10x5_1.code.length : Int) - 1)) })), vs1, ws1, sx.cells, 3, x147.n) ⟨h.cn _, hs⟩
            ·
             refine wc_seq (wc_region (wl_ok (r_eql rfl rfl) (wl_ok (r_assign (v := (.bool (decide ((xq10x12_1.op : Int) = 12)))) rfl) (wl_nil (then_normal (wc_ifb hs rfl (fun c162 hs => ?_) (fun c162 hs => ?_)))))))
             ·
              refine wc_region (wl_ok (r_move (v := (.pointer (some ⟨b6, (((sx.frames.length : Int) - 1)).toNat * 4, none⟩))) rfl) (wl_ok (r_fieldAddr Fld93x2 rfl) (wl_ok (r_ldB h 177 rfl One3 rfl rfl) (wl_ok (r_nilCheck rfl) (wl_ok (r_fieldAddr Fld49x1 rfl) (w_stO (a' := (({ x3 with at_ := xq10x12_1.b }), u8)) h 2 rfl q7 rfl (zip_at (set_at (o_idx e4).2) e9) One3 rfl rfl rfl rfl (by rintro _ ⟨rfl, hq⟩; exact ⟨rfl, hq⟩) fun w h => ?_))))))
              rw [zip_setL e9] at h
              replace h := h.famL 3 ({ x3 with at_ := xq10x12_1.b }) rfl
              refine wl_nil (inBlock_normal ?_)
              replace h := h.dnClose0 3 8 rfl rfl (by decide) (set_at (set_at (o_idx e4).2)) e9 rfl
              refine then_loop ?_
              exact jend (false, vs0, ws0, ((sx.frames.set (((sx.frames.length : Int) - 1)).toNat ({ x3 with at_ := (min (x3.at_ + 1) ((xq10x5_1.code.length : Int) - 1)) })).set (((sx.frames.length : Int) - 1)).toNat ({ x3 with at_ := xq10x12_1.b })), vs1, ws1, sx.cells, sx.status, sx.wher) ⟨h.cn _, hs⟩
             ·
              refine wc_seq (wc_region (wl_ok (r_eql rfl rfl) (wl_ok (r_assign (v := (.bool (decide ((xq10x12_1.op : Int) = 13)))) rfl) (wl_nil (then_normal (wc_ifb hs rfl (fun c163 hs => ?_) (fun c163 hs => ?_)))))))
              ·
               refine wc_seq (wc_region (wl_ok (r_move (v := u8) rfl) (wl_ok (r_fieldAddr Fld93x1 rfl) (wl_ok (r_ldB h 177 rfl One3 rfl rfl) ?_))))
               obtain ⟨x164, e165, hs⟩ := o_bind hs
               obtain ⟨b167, q168, i166⟩ := h.ixO 8 rfl SliceOf47 rfl (o_idx e165).1 (o_idx e165).2
               refine wl_ok (i166 _ _ _ _ _ _ _ _ _ rfl rfl) ?_
               obtain ⟨cs169, m170, r171⟩ := h.elO 8 rfl q168 (o_idx e165).2
               obtain rfl := r171
               refine wl_ok (r_ldAN (k := 0) (vs := [(.int .i64 (x164.kind)), (.int .i64 (x164.n))]) m170 Many51 rfl rfl rfl (Nat.le_of_ble_eq_true rfl)) (w_allocN h 995 Many51 fun w b172 h => w_stN (vs := [(.int .i64 (x164.kind)), (.int .i64 (x164.n))]) h 995 [(.int .i64 (x164.kind)), (.int .i64 (x164.n))] rfl Many51 rfl rfl rfl rfl rfl (ones_cons rfl (ones_cons rfl ones_nil)) fun w h => wl_nil (then_normal (wc_seq (wc_region (wl_ok (r_fieldAddr Fld51x0 rfl) (wl_ok (r_ldB h 995 rfl One3 rfl rfl) (wl_ok (r_eql rfl rfl) (wl_ok (r_move (v := (.bool (decide ((x164.kind : Int) = 0)))) rfl) (wl_gd0 rfl rfl (fun q => r_fieldAddr Fld51x0 rfl) (wl_gd0 rfl rfl (fun q => r_ldB h 995 rfl One3 (gvt q) rfl) (wl_gd0 rfl rfl (fun q => r_eql (gvt q) rfl) (wl_gd0 rfl rfl (fun q => r_move (v := (.bool (decide ((x164.kind : Int) = 1)))) (gvt q)) (wl_gd (decide ((x164.kind : Int) = 0) == false) rfl rfl (fun q => r_fieldAddr Fld51x1 rfl) (wl_gd (decide ((x164.kind : Int) = 0) == false) rfl rfl (fun q => r_ldB h 995 rfl One3 (gvt q) rfl) (wl_gd (decide ((x164.kind : Int) = 0) == false) rfl rfl (fun q => r_eql (gvt q) rfl) (wl_gd0 rfl rfl (fun q => r_pand (gvt q) (gvn q) evc) (wl_ok (r_por rfl rfl evc) (wl_nil (then_normal (wc_ifb hs rfl (fun c173 hs => ?_) (fun c173 hs => ?_)))))))))))))))))))))
               ·
                refine wc_region (wl_ok (r_move (v := (.pointer (some ⟨b6, (((sx.frames.length : Int) - 1)).toNat * 4, none⟩))) rfl) (wl_ok (r_fieldAddr Fld93x2 rfl) (wl_ok (r_ldB h 177 rfl One3 rfl rfl) (wl_ok (r_nilCheck rfl) (wl_ok (r_fieldAddr Fld49x1 rfl) (w_stO (a' := (({ x3 with at_ := xq10x12_1.b }), u8)) h 2 rfl q7 rfl (zip_at (set_at (o_idx e4).2) e9) One3 rfl rfl rfl rfl (by rintro _ ⟨rfl, hq⟩; exact ⟨rfl, hq⟩) fun w h => ?_))))))
                rw [zip_setL e9] at h
                replace h := h.famL 3 ({ x3 with at_ := xq10x12_1.b }) rfl
                refine wl_nil (inBlock_normal ?_)
                replace h := h.dnClose0 3 8 rfl rfl (by decide) (set_at (set_at (o_idx e4).2)) e9 rfl
                refine then_loop ?_
                exact jend (false, vs0, ws0, ((sx.frames.set (((sx.frames.length : Int) - 1)).toNat ({ x3 with at_ := (min (x3.at_ + 1) ((xq10x5_1.code.length : Int) - 1)) })).set (((sx.frames.length : Int) - 1)).toNat ({ x3 with at_ := xq10x12_1.b })), vs1, ws1, sx.cells, sx.status, sx.wher) ⟨h.cn _, hs⟩
               ·
                refine wc_skip (inBlock_normal ?_)
                replace h := h.dnClose0 3 8 rfl rfl (by decide) (set_at (o_idx e4).2) e9 rfl
                refine then_loop ?_
                exact jend (false, vs0, ws0, (sx.frames.set (((sx.frames.length : Int) - 1)).toNat ({ x3 with at_ := (min (x3.at_ + 1) ((xq10x5_1.code.length : Int) - 1)) })), vs1, ws1, sx.cells, sx.status, sx.wher) ⟨h.cn _, hs⟩
              ·
               refine wc_skip (inBlock_normal ?_)
               replace h := h.dnClose0 3 8 rfl rfl (by decide) (set_at (o_idx e4).2) e9 rfl
               refine then_loop ?_
               exact jend (false, vs0, ws0, (sx.frames.set (((sx.frames.length : Int) - 1)).toNat ({ x3 with at_ := (min (x3.at_ + 1) ((xq10x5_1.code.length : Int) - 1)) })), vs1, ws1, sx.cells, sx.status, sx.wher) ⟨h.cn _, hs⟩
     ·
      refine wc_seq (wc_region (wl_ok (r_eql rfl rfl) (wl_ok (r_assign (v := (.bool (decide ((xq10x12_1.op : Int) = 4)))) rfl) (wl_nil (then_normal (wc_ifb hs rfl (fun c174 hs => ?_) (fun c174 hs => ?_)))))))
      ·
       refine wc_skip (then_loop ?_)
       exact jend (decide ((xq10x12_1.op : Int) = 4)) ⟨h.cn _, hs⟩
      ·
       refine wc_region (wl_ok (r_eql rfl rfl) (wl_ok (r_assign (v := (.bool (decide ((xq10x12_1.op : Int) = 6)))) rfl) (wl_nil (then_loop ?_))))
       exact jend (decide ((xq10x12_1.op : Int) = 6)) ⟨h.cn _, hs⟩
def vm_Run_j9 (x19 : List Int) (x20 : Int) (y23 : List LX.Frame) (y26 : List (List Val)) (y27 : Int) (y28 : Int) : Option (LX.State × List Int × Int × Int) :=
  some ((⟨y23, y26, y27, y28⟩ : LX.State), x19, x20, 0)
def vm_Run_j16 (y106 : VOut × Bool × LX.State) (x64 : Int) (nx77 : (List Int × Int × List LX.Frame × List (List Val) × Int × Int) → Option (LX.State × List Int × Int × Int)) (x119 : List Int) : Option (LX.State × List Int × Int × Int) :=
  bif y106.1.paused then vm_Run_j9 x119 (x64 + 1) y106.2.2.frames y106.2.2.cells y106.2.2.status y106.2.2.wher else nx77 (x119, (x64 + 1), y106.2.2.frames, y106.2.2.cells, y106.2.2.status, y106.2.2.wher)
def vm_Run_j15 (N : Nat) (x63 : List Int) (x64 : Int) (y67 : List LX.Frame) (y70 : List (List Val)) (y71 : Int) (y72 : Int) (a : List Proc) (nx77 : (List Int × Int × List LX.Frame × List (List Val) × Int × Int) → Option (LX.State × List Int × Int × Int)) (x93 : Bool) : Option (LX.State × List Int × Int × Int) :=
  bif x93 then vm_Run_j9 x63 x64 y67 y70 y71 y72 else (vm_Copy (⟨y67, y70, y71, y72⟩ : LX.State)).bind fun y95 => (vm_step N y95 a).bind fun y106 => grd (I64 (x64 + 1)) (bif (!y106.2.1) then vm_Run_j9 x63 (x64 + 1) y67 y70 2 y72 else bif y106.1.said then grd (Room 8 x63 [y106.1.n]) (vm_Run_j16 y106 x64 nx77 (x63 ++ [y106.1.n])) else vm_Run_j16 y106 x64 nx77 x63)
def vm_Run_b17 (N : Nat) (c : Int) (a : List Proc) (s : List Int × Int × List LX.Frame × List (List Val) × Int × Int) (nx77 : List Int × Int × List LX.Frame × List (List Val) × Int × Int → Option (LX.State × List Int × Int × Int)) : Option (LX.State × List Int × Int × Int) :=
  match s with | (x63, x64, y67, y70, y71, y72) => bif (decide ((x64 : Int) < c) && decide ((y71 : Int) = 0)) then grd (I64 ((y67.length : Int) - 1)) ((idx y67 ((y67.length : Int) - 1)).bind fun x82 => bif decide (((x63.length : Int) : Int) = 40) then (idx a x82.proc).bind fun x126 => (idx x126.code x82.at_).bind fun x135 => vm_Run_j15 N x63 x64 y67 y70 y71 y72 a nx77 (decide ((x135.op : Int) = 9)) else vm_Run_j15 N x63 x64 y67 y70 y71 y72 a nx77 false) else vm_Run_j9 x63 x64 y67 y70 y71 y72
def vm_Run (N : Nat) (a : List Proc) (b : LX.State) (c : Int) : Option (LX.State × List Int × Int × Int) :=
  (vm_Check a b).bind fun y3 => bif decide ((y3 : Int) ≠ 0) then some ((⟨[], [], 0, 0⟩ : LX.State), [], 0, y3) else bif (decide ((c : Int) < 0) || decide ((2000 : Int) < c)) then some ((⟨[], [], 0, 0⟩ : LX.State), [], 0, 3) else bif decide ((b.status : Int) ≠ 0) then some ((⟨[], [], 0, 0⟩ : LX.State), [], 0, 7) else (vm_Copy b).bind fun y9 => again (vm_Run_b17 N c a) N ([], 0, y9.frames, y9.cells, y9.status, y9.wher)
theorem vm_Run_c (N : Nat) (w0 : World) (M : BS) (hM : ∀ b, M b → b < w0.heap.size) (va : Value) (a : List Proc) (ha : RdSl rProc w0 M va a) (b : LX.State) (vb0 vb1 : Value) (hb0 : Rd2 rFrame w0 BE M vb0 b.frames) (hb1 : Rd2 (rSl rVal) w0 BE M vb1 b.cells) (c : Int) (r : LX.State × List Int × Int × Int) (hs : vm_Run N a b c = some r) :
    Calls Tryz.prog 28 #[va, (.agg #[vb0, vb1, (.int .i64 (b.status)), (.int .i64 (b.wher))]), (.int .i64 (c))] w0 (fun e w' => Grow w0 w' ∧ ∃ u0_0, ∃ u0_1, ∃ u1, e = .returned (.tuple #[.agg #[u0_0, u0_1, .int .i64 r.1.status, .int .i64 r.1.wher], u1, .int .i64 r.2.2.1, .int .i64 r.2.2.2]) ∧ RdSl rFrame w' (fun b => M b ∨ ob u1 b) u0_0 r.1.frames ∧ RdSl (rSl rVal) w' (fun b => M b ∨ ob u1 b) u0_1 r.1.cells ∧ OwnSl rInt 3 w' M u1 r.2.1 ∧ (∀ b, ob u1 b → w0.heap.size ≤ b)) := by
 refine calls_start (args := [va, (.agg #[vb0, vb1, (.int .i64 (b.status)), (.int .i64 (b.wher))]), (.int .i64 (c))]) Tryz.func28 rfl Tryz.ntmps28 (Nat.le_of_ble_eq_true rfl) ?_
 have h := SH.init hM
 replace h := h.argRd 1 ha none_own
 replace h := h.argSr 2 hb0 (hupd_own_rd none_own)
 replace h := h.argSr 3 hb1 (hupd_own_sr (hupd_own_rd none_own))
 have hl_a := ha.len_le
 refine wc_seq (wc_region (w_box (cs := [vb0, vb1, (.int .i64 (b.status)), (.int .i64 (b.wher))]) h 4 rfl rfl fun w b1 h => w_allocN h 5 Many26 fun w b2 h => wl_ok (r_assign (v := (.slice none 0 0)) rfl) (wl_ok (r_assign (v := (.int .i64 (0))) rfl) (wl_ok (r_assign (v := (.int .i64 (0))) rfl) (wl_nil (then_normal (wc_seq (wc_seq (wc_region (wl_ok (r_move (v := va) rfl) (wl_ok (r_ldBN (vs := [vb0, vb1, (.int .i64 (b.status)), (.int .i64 (b.wher))]) h 4 rfl Many26 rfl rfl rfl) ?_)))))))))))
 obtain ⟨y3, e4, hs⟩ := o_bind hs
 refine w_call fnOk27 rfl rfl (vm_Check_c _ _ h.lt va a (h.rdS 1 rfl) b vb0 vb1 (h.srS 2 rfl) (h.srS 3 rfl) _ e4) ?_
 rintro _ w ⟨k5, rfl⟩
 refine ⟨_, rfl, ?_⟩
 replace h := h.grow k5
 refine wl_ok (r_assign (v := (.int .i64 (y3))) rfl) (wl_nil (then_normal (wc_seq (wc_region (wl_ok (r_move (v := (.int .i64 (y3))) rfl) (wl_ok (r_neq rfl rfl) (wl_nil (then_normal (wc_ifb hs rfl (fun c6 hs => ?_) (fun c6 hs => ?_))))))))))
 ·
  refine wc_seq (wc_region (wl_ok (r_build (pv := []) (out := [(.slice none 0 0), (.slice none 0 0), (.int .i64 (0)), (.int .i64 (0))]) Struct26 rfl rfl) (wl_ok (r_move (v := (.int .i64 (y3))) rfl) (w_stN (vs := [(.slice none 0 0), (.slice none 0 0), (.int .i64 (0)), (.int .i64 (0))]) h 5 [(.slice none 0 0), (.slice none 0 0), (.int .i64 (0)), (.int .i64 (0))] rfl Many26 rfl rfl rfl rfl rfl (ones_cons rfl (ones_cons rfl (ones_cons rfl (ones_cons rfl ones_nil)))) fun w h => wl_ok (r_assign (v := (.slice none 0 0)) rfl) (wl_ok (r_assign (v := (.int .i64 (0))) rfl) (wl_ok (r_assign (v := (.int .i64 (y3))) rfl) (wl_nil (then_normal (wc_ret (then_ret (fin_cttt (vs := [(.slice none 0 0), (.slice none 0 0), (.int .i64 (0)), (.int .i64 (0))]) (v2 := (.slice none 0 0)) (v3 := (.int .i64 (0))) (v4 := (.int .i64 (y3))) Tryz.results28 rfl rfl rfl rfl h 5 rfl Many26 rfl ?_)))))))))))
  obtain rfl := Option.some.inj hs
  exact ⟨h.grown, _, _, _, rfl, Rd2.nil, Rd2.nil, OwnSl.nil, fresh_nil⟩
 ·
  refine wc_skip (then_normal (wc_seq (wc_seq (wc_region (wl_ok (r_move (v := (.int .i64 (c))) rfl) (wl_ok (r_lss rfl rfl) (wl_ok (r_move (v := (.bool (decide ((c : Int) < 0)))) rfl) (wl_gd0 rfl rfl (fun q => r_move (v := (.int .i64 (c))) rfl) (wl_gd0 rfl rfl (fun q => r_gtr (gvt q) rfl) (wl_ok (r_por rfl rfl evc) (wl_nil (then_normal (wc_ifb hs rfl (fun c7 hs => ?_) (fun c7 hs => ?_))))))))))))))
  ·
   refine wc_seq (wc_region (wl_ok (r_build (pv := []) (out := [(.slice none 0 0), (.slice none 0 0), (.int .i64 (0)), (.int .i64 (0))]) Struct26 rfl rfl) (w_stN (vs := [(.slice none 0 0), (.slice none 0 0), (.int .i64 (0)), (.int .i64 (0))]) h 5 [(.slice none 0 0), (.slice none 0 0), (.int .i64 (0)), (.int .i64 (0))] rfl Many26 rfl rfl rfl rfl rfl (ones_cons rfl (ones_cons rfl (ones_cons rfl (ones_cons rfl ones_nil)))) fun w h => wl_ok (r_assign (v := (.slice none 0 0)) rfl) (wl_ok (r_assign (v := (.int .i64 (0))) rfl) (wl_ok (r_assign (v := (.int .i64 (3))) rfl) (wl_nil (then_normal (wc_ret (then_ret (fin_cttt (vs := [(.slice none 0 0), (.slice none 0 0), (.int .i64 (0)), (.int .i64 (0))]) (v2 := (.slice none 0 0)) (v3 := (.int .i64 (0))) (v4 := (.int .i64 (3))) Tryz.results28 rfl rfl rfl rfl h 5 rfl Many26 rfl ?_))))))))))
   obtain rfl := Option.some.inj hs
   exact ⟨h.grown, _, _, _, rfl, Rd2.nil, Rd2.nil, OwnSl.nil, fresh_nil⟩
  ·
   refine wc_skip (then_normal (wc_seq (wc_seq (wc_region (wl_ok (r_fieldAddr Fld26x2 rfl) (wl_ok (r_ldB h 4 rfl One3 rfl rfl) (wl_ok (r_neq rfl rfl) (wl_nil (then_normal (wc_ifb hs rfl (fun c8 hs => ?_) (fun c8 hs => ?_)))))))))))
   ·
    refine wc_seq (wc_region (wl_ok (r_build (pv := []) (out := [(.slice none 0 0), (.slice none 0 0), (.int .i64 (0)), (.int .i64 (0))]) Struct26 rfl rfl) (w_stN (vs := [(.slice none 0 0), (.slice none 0 0), (.int .i64 (0)), (.int .i64 (0))]) h 5 [(.slice none 0 0), (.slice none 0 0), (.int .i64 (0)), (.int .i64 (0))] rfl Many26 rfl rfl rfl rfl rfl (ones_cons rfl (ones_cons rfl (ones_cons rfl (ones_cons rfl ones_nil)))) fun w h => wl_ok (r_assign (v := (.slice none 0 0)) rfl) (wl_ok (r_assign (v := (.int .i64 (0))) rfl) (wl_ok (r_assign (v := (.int .i64 (7))) rfl) (wl_nil (then_normal (wc_ret (then_ret (fin_cttt (vs := [(.slice none 0 0), (.slice none 0 0), (.int .i64 (0)), (.int .i64 (0))]) (v2 := (.slice none 0 0)) (v3 := (.int .i64 (0))) (v4 := (.int .i64 (7))) Tryz.results28 rfl rfl rfl rfl h 5 rfl Many26 rfl ?_))))))))))
    obtain rfl := Option.some.inj hs
    exact ⟨h.grown, _, _, _, rfl, Rd2.nil, Rd2.nil, OwnSl.nil, fresh_nil⟩
   ·
    refine wc_skip (then_normal (wc_seq (wc_region (wl_ok (r_ldBN (vs := [vb0, vb1, (.int .i64 (b.status)), (.int .i64 (b.wher))]) h 4 rfl Many26 rfl rfl rfl) ?_))))
    obtain ⟨y9, e10, hs⟩ := o_bind hs
    refine w_call fnOk49 rfl rfl (vm_Copy_c _ _ h.lt b vb0 vb1 (h.srS 2 rfl) (h.srS 3 rfl) _ e10) ?_
    rintro _ w ⟨k17, u11, u13, us12, us14, rfl, h15, h16⟩
    refine ⟨_, rfl, ?_⟩
    replace h := h.gotC 6 (C := (.two (.two (.two (.own nFrame.raw 49 u11 (List.zip y9.frames us12)) (.pce (famS rVal 51 hn us12 (List.map nFrame.sub y9.frames)))) (.own (nLst Val).raw 47 u13 (List.zip y9.cells us14))) (.pce (famS rVal 51 hn us14 (List.map (nLst Val).sub y9.cells))) : Chunk)) k17 ⟨⟨⟨trivial, trivial⟩, trivial⟩, trivial⟩ h15 h16
    replace h := h.unpair 6 9 (by decide) rfl rfl
    replace h := h.unpair 6 8 (by decide) rfl rfl
    replace h := h.unpair 6 7 (by decide) rfl rfl
    refine w_stN (vs := [u11, u13, (.int .i64 (y9.status)), (.int .i64 (y9.wher))]) h 4 [u11, u13, (.int .i64 (y9.status)), (.int .i64 (y9.wher))] rfl Many26 rfl rfl rfl rfl rfl (ones_cons (h.ownAt 6 rfl).one (ones_cons (h.ownAt 8 rfl).one (ones_cons rfl (ones_cons rfl ones_nil)))) fun w h => wl_nil (then_normal (wc_seq (wc_region (wl_ok (r_assign (v := (.slice none 0 0)) rfl) (wl_nil (then_normal (wc_seq (wc_region (wl_ok (r_assign (v := (.int .i64 (0))) rfl) (wl_nil (then_normal (wc_join (σ := Value × List Int × Int × Value × List Value × List LX.Frame × Value × List Value × List (List Val) × Int × Int) (inl [11, 12, 13, 14, 15, 16, 37, 38, 39, 40, 41, 42, 43, 44, 45, 46, 47, 48, 49, 50, 51, 52, 53, 54, 55, 56, 57, 58, 59, 60, 61, 62, 63, 64, 65, 66, 67, 68, 69, 70, 71, 72, 73, 74, 75, 76, 77, 78, 79, 80, 81, 82, 83, 84, 85, 86, 87, 88, 89, 90, 91]) (fun ⟨v18, x19, x20, v21, us22, y23, v24, us25, y26, y27, y28⟩ => [(11, v18), (12, (.int .i64 (x20)))]) (fun ⟨v18, x19, x20, v21, us22, y23, v24, us25, y26, y27, y28⟩ w => SH w0 M BE w (hset [(4, .blk b1 [v21, v24, (.int .i64 (y27)), (.int .i64 (y28))]), (5, .blk b2 [(.slice none 0 0), (.slice none 0 0), (.int .i64 (0)), (.int .i64 (0))]), (10, .own nFrame.raw 49 v21 (List.zip y23 us22)), (11, .pce (famS rVal 51 hn us22 (List.map nFrame.sub y23))), (12, .own (nLst Val).raw 47 v24 (List.zip y26 us25)), (13, .pce (famS rVal 51 hn us25 (List.map (nLst Val).sub y26))), (25, .own rInt 3 v18 x19)]) ∧ vm_Run_j9 x19 x20 y23 y26 y27 y28 = some r) ?_ ?_))))))))))))
    ·
     rintro ⟨v18, x19, x20, v21, us22, y23, v24, us25, y26, y27, y28⟩ w junk ⟨h, hs⟩
     refine wc_seq (wc_region (wl_ok (r_ldBN (vs := [v21, v24, (.int .i64 (y27)), (.int .i64 (y28))]) h 4 rfl Many26 rfl rfl rfl) (wl_ok (r_move (v := v18) rfl) (wl_ok (r_move (v := (.int .i64 (x20))) rfl) (w_stN (vs := [v21, v24, (.int .i64 (y27)), (.int .i64 (y28))]) h 5 [v21, v24, (.int .i64 (y27)), (.int .i64 (y28))] rfl Many26 rfl rfl rfl rfl rfl (ones_cons (h.ownAt 10 rfl).one (ones_cons (h.ownAt 12 rfl).one (ones_cons rfl (ones_cons rfl ones_nil)))) fun w h => wl_ok (r_assign (v := v18) rfl) (wl_ok (r_assign (v := (.int .i64 (x20))) rfl) (wl_ok (r_assign (v := (.int .i64 (0))) rfl) (wl_nil (then_normal (wc_ret (fin_cttt (vs := [v21, v24, (.int .i64 (y27)), (.int .i64 (y28))]) (v2 := v18) (v3 := (.int .i64 (x20))) (v4 := (.int .i64 (0))) Tryz.results28 rfl rfl rfl rfl h 5 rfl Many26 rfl ?_)))))))))))
     replace h := h.dnFreeze (N := nFrame) (R' := rFrame) 10 11 rfl rfl (by decide) rfl nFrame_br
     replace h := h.dnFreeze (N := (nLst Val)) (R' := (rSl rVal)) 12 13 rfl rfl (by decide) rfl nLst_br
     obtain rfl := Option.some.inj hs
     exact ⟨h.grown, _, _, _, rfl, h.outRdO 10 25 rfl rfl, h.outRdO 12 25 rfl rfl, (h.outOwn 25 rfl).1, (h.outOwn 25 rfl).2⟩
    ·
     refine wc_block ?_
     replace h := h.nilO (R := rInt) (E := 3) 41
     replace h := (h.dropC 42).moveC 6 42 rfl rfl (by decide)
     replace h := (h.dropC 43).moveC 7 43 rfl rfl (by decide)
     replace h := (h.dropC 44).moveC 8 44 rfl rfl (by decide)
     replace h := (h.dropC 45).moveC 9 45 rfl rfl (by decide)
     refine wc_lp (σ := Nat × Value × List Int × Int × Value × List Value × List LX.Frame × Value × List Value × List (List Val) × Int × Int) (inl [11, 12, 13, 14, 15, 16, 37, 38, 39, 40, 41, 42, 43, 44, 45, 46, 47, 48, 49, 50, 51, 52, 53, 54, 55, 56, 57, 58, 59, 60, 61, 62, 63, 64, 65, 66, 67, 68, 69, 70, 71, 72, 73, 74, 75, 76, 77, 78, 79, 80, 81, 82, 83, 84, 85, 86, 87, 88, 89, 90, 91]) (fun ⟨m76, v62, x63, x64, v65, us66, y67, v68, us69, y70, y71, y72⟩ => [(11, v62), (12, (.int .i64 (x64)))]) (fun ⟨m76, v62, x63, x64, v65, us66, y67, v68, us69, y70, y71, y72⟩ w => SH w0 M BE w (hset [(1, .rd rProc va a), (4, .blk b1 [v65, v68, (.int .i64 (y71)), (.int .i64 (y72))]), (5, .blk b2 [(.slice none 0 0), (.slice none 0 0), (.int .i64 (0)), (.int .i64 (0))]), (41, .own rInt 3 v62 x63), (42, .own nFrame.raw 49 v65 (List.zip y67 us66)), (43, .pce (famS rVal 51 hn us66 (List.map nFrame.sub y67))), (44, .own (nLst Val).raw 47 v68 (List.zip y70 us69)), (45, .pce (famS rVal 51 hn us69 (List.map (nLst Val).sub y70)))]) ∧ again (vm_Run_b17 N c a) m76 (x63, x64, y67, y70, y71, y72) = some r) (fun ⟨m76, v62, x63, x64, v65, us66, y67, v68, us69, y70, y71, y72⟩ => m76) ⟨N, (.slice none 0 0), [], 0, u11, us12, y9.frames, u13, us14, y9.cells, y9.status, y9.wher⟩ ⟨rfl, rfl, trivial⟩ ?_ ?_
     ·
      exact ⟨h.cn _, hs⟩
     ·
      rintro ⟨m76, v62, x63, x64, v65, us66, y67, v68, us69, y70, y71, y72⟩ w junk ⟨h, hs⟩
      obtain ⟨m761, m76e, m76h⟩ := again_pos hs
      subst m76e
      replace hs := m76h
      generalize hnx77 : again (vm_Run_b17 N c a) m761 = nx77 at hs
      refine wc_seq (wc_seq (wc_region (wl_ok (r_move (v := (.int .i64 (x64))) rfl) (wl_ok (r_move (v := (.int .i64 (c))) rfl) (wl_ok (r_lss rfl rfl) (wl_ok (r_move (v := (.bool (decide ((x64 : Int) < c)))) rfl) (wl_gd0 rfl rfl (fun q => r_fieldAddr Fld26x2 rfl) (wl_gd0 rfl rfl (fun q => r_ldB h 4 rfl One3 (gvt q) rfl) (wl_gd0 rfl rfl (fun q => r_eql (gvt q) rfl) (wl_ok (r_pand rfl rfl evc) (wl_nil (then_normal (wc_ifb hs rfl (fun c80 hs => ?_) (fun c80 hs => ?_))))))))))))))
      ·
       refine wc_skip (then_normal (wc_block (wc_seq (wc_region (wl_ok (r_fieldAddr Fld26x0 rfl) (wl_ok (r_ldB h 4 rfl One23 rfl rfl) (wl_ok (r_fieldAddr Fld26x0 rfl) (wl_ok (r_ldB h 4 rfl One23 rfl rfl) (wl_ok (r_lenZ (N := nFrame) SliceOf23 rfl (h.ownS 42 rfl) (h.dnLen 43 rfl)) ?_)))))))))
       obtain ⟨a81, hs⟩ := o_grd hs
       refine wl_ok (r_sub rfl rfl a81) ?_
       obtain ⟨x82, e83, hs⟩ := o_bind hs
       obtain ⟨u87, e88, h⟩ := h.dnOpenL 43 46 x82.regs rfl rfl (by decide) (o_idx e83).2 rfl
       obtain ⟨b85, q86, i84⟩ := h.ixO 42 rfl SliceOf23 rfl (o_idx e83).1 (zip_at (o_idx e83).2 e88)
       refine wl_ok (i84 _ _ _ _ _ _ _ _ _ rfl rfl) ?_
       obtain ⟨cs89, m90, r91⟩ := h.elO 42 rfl q86 (zip_at (o_idx e83).2 e88)
       obtain ⟨rfl, -⟩ := r91
       refine wl_ok (r_ldAN (k := 0) (vs := [(.int .i64 (x82.proc)), (.int .i64 (x82.at_)), u87, (.int .i64 (x82.to_))]) m90 Many49 rfl rfl rfl (Nat.le_of_ble_eq_true rfl)) (w_allocN h 47 Many49 fun w b92 h => w_stN (vs := [(.int .i64 (x82.proc)), (.int .i64 (x82.at_)), u87, (.int .i64 (x82.to_))]) h 47 [(.int .i64 (x82.proc)), (.int .i64 (x82.at_)), u87, (.int .i64 (x82.to_))] rfl Many49 rfl rfl rfl rfl rfl (ones_cons rfl (ones_cons rfl (ones_cons (h.ownAt 46 rfl).one (ones_cons rfl ones_nil)))) fun w h => wl_nil (then_normal (wc_seq (wc_join (σ := Bool) (inl [53, 54, 55, 56, 57, 58, 59, 60, 61, 62, 63, 64, 65, 66, 67, 68, 69]) (fun x93 => [(69, (.bool (x93)))]) (fun x93 w => SH w0 M BE w (hset [(1, .rd rProc va a), (4, .blk b1 [v65, v68, (.int .i64 (y71)), (.int .i64 (y72))]), (5, .blk b2 [(.slice none 0 0), (.slice none 0 0), (.int .i64 (0)), (.int .i64 (0))]), (41, .own rInt 3 v62 x63), (42, .own nFrame.raw 49 v65 (List.zip y67 us66)), (43, .pce (famS rVal 51 hn us66 (List.map nFrame.sub y67))), (44, .own (nLst Val).raw 47 v68 (List.zip y70 us69)), (45, .pce (famS rVal 51 hn us69 (List.map (nLst Val).sub y70)))]) ∧ vm_Run_j15 N x63 x64 y67 y70 y71 y72 a nx77 x93 = some r) ?_ ?_))))
       ·
        rintro x93 w junk ⟨h, hs⟩
        refine wc_ifb hs rfl (fun c94 hs => ?_) (fun c94 hs => ?_)
        ·
         refine wc_exit (then_exit (inBlock_ne (by decide) (then_exit (inBlock_eq (then_loop ?_)))))
         replace h := h.moveO 41 25 rfl rfl (by decide)
         replace h := (h.dropC 10).moveC 42 10 rfl rfl (by decide)
         replace h := (h.dropC 11).moveC 43 11 rfl rfl (by decide)
         replace h := (h.dropC 12).moveC 44 12 rfl rfl (by decide)
         replace h := (h.dropC 13).moveC 45 13 rfl rfl (by decide)
         exact jend (v62, x63, x64, v65, us66, y67, v68, us69, y70, y71, y72) ⟨h.cn _, hs⟩
        ·
         refine wc_skip (then_normal (wc_seq (wc_region (wl_ok (r_ldBN (vs := [v65, v68, (.int .i64 (y71)), (.int .i64 (y72))]) h 4 rfl Many26 rfl rfl rfl) ?_))))
         obtain ⟨y95, e96, hs⟩ := o_bind hs
         refine w_call fnOk49 rfl rfl (vm_Copy_c _ BE (fun _ h => h.elim) (⟨y67, y70, y71, y72⟩ : LX.State) v65 v68 (h.dnLend (N := nFrame) (R' := rFrame) 42 43 rfl rfl (by decide) rfl nFrame_br) (h.dnLend (N := (nLst Val)) (R' := (rSl rVal)) 44 45 rfl rfl (by decide) rfl nLst_br) _ e96) ?_
         rintro _ w ⟨k103, u97, u99, us98, us100, rfl, h101, h102⟩
         refine ⟨_, rfl, ?_⟩
         replace h := h.gotCF 48 (C := (.two (.two (.two (.own nFrame.raw 49 u97 (List.zip y95.frames us98)) (.pce (famS rVal 51 hn us98 (List.map nFrame.sub y95.frames)))) (.own (nLst Val).raw 47 u99 (List.zip y95.cells us100))) (.pce (famS rVal 51 hn us100 (List.map (nLst Val).sub y95.cells))) : Chunk)) k103 ⟨⟨⟨trivial, trivial⟩, trivial⟩, trivial⟩ ⟨⟨⟨(fun _ _ _ _ _ h => h), (famS_flat (fun _ _ _ _ _ h => h))⟩, (fun _ _ _ _ _ h => h)⟩, (famS_flat (fun _ _ _ _ _ h => h))⟩ h101 h102
         replace h := h.unpair 48 51 (by decide) rfl rfl
         replace h := h.unpair 48 50 (by decide) rfl rfl
         replace h := h.unpair 48 49 (by decide) rfl rfl
         refine w_allocN h 52 Many26 fun w b104 h => w_stN (vs := [u97, u99, (.int .i64 (y95.status)), (.int .i64 (y95.wher))]) h 52 [u97, u99, (.int .i64 (y95.status)), (.int .i64 (y95.wher))] rfl Many26 rfl rfl rfl rfl rfl (ones_cons (h.ownAt 48 rfl).one (ones_cons (h.ownAt 50 rfl).one (ones_cons rfl (ones_cons rfl ones_nil)))) fun w h => wl_nil (then_normal (wc_seq (wc_region (wl_ok (r_move (v := va) rfl) ?_))))
         replace h := h.pair 52 48 (by decide)
         replace h := h.pair 52 49 (by decide)
         replace h := h.pair 52 50 (by decide)
         replace h := h.pair 52 51 (by decide)
         obtain ⟨l105a, l105b, l105c⟩ := h.lendS 52 (C := (.two (.two (.two (.two (.blk b104 [u97, u99, (.int .i64 (y95.status)), (.int .i64 (y95.wher))]) (.own nFrame.raw 49 u97 (List.zip y95.frames us98))) (.pce (famS rVal 51 hn us98 (List.map nFrame.sub y95.frames)))) (.own (nLst Val).raw 47 u99 (List.zip y95.cells us100))) (.pce (famS rVal 51 hn us100 (List.map (nLst Val).sub y95.cells))) : Chunk)) rfl ⟨⟨⟨⟨trivial, trivial⟩, trivial⟩, trivial⟩, trivial⟩
         obtain ⟨y106, e107, hs⟩ := o_bind hs
         refine w_call fnOk65 rfl rfl (vm_step_c N _ _ l105c b104 y95 u97 u99 us98 us100 l105a l105b va a (h.rdC 52 1 rfl rfl) _ e107) ?_
         rintro _ w ⟨k112, u108, u110, us109, us111, rfl, h113, h114⟩
         refine ⟨_, rfl, ?_⟩
         replace h := h.back 52 (C := (.two (.two (.two (.two (.blk b104 [u97, u99, (.int .i64 (y95.status)), (.int .i64 (y95.wher))]) (.own nFrame.raw 49 u97 (List.zip y95.frames us98))) (.pce (famS rVal 51 hn us98 (List.map nFrame.sub y95.frames)))) (.own (nLst Val).raw 47 u99 (List.zip y95.cells us100))) (.pce (famS rVal 51 hn us100 (List.map (nLst Val).sub y95.cells))) : Chunk)) (C' := (.two (.two (.two (.two (.blk b104 [u108, u110, (.int .i64 (y106.2.2.status)), (.int .i64 (y106.2.2.wher))]) (.own nFrame.raw 49 u108 (List.zip y106.2.2.frames us109))) (.pce (famS rVal 51 hn us109 (List.map nFrame.sub y106.2.2.frames)))) (.own (nLst Val).raw 47 u110 (List.zip y106.2.2.cells us111))) (.pce (famS rVal 51 hn us111 (List.map (nLst Val).sub y106.2.2.cells))) : Chunk)) rfl ⟨⟨⟨⟨trivial, trivial⟩, trivial⟩, trivial⟩, trivial⟩ h113 k112 h114
         replace h := h.unpair 52 51 (by decide) rfl rfl
         replace h := h.unpair 52 50 (by decide) rfl rfl
         replace h := h.unpair 52 49 (by decide) rfl rfl
         replace h := h.unpair 52 48 (by decide) rfl rfl
         refine wl_ok (r_move (v := (.tuple #[(.agg #[(.bool (y106.1.said)), (.int .i64 (y106.1.n)), (.bool (y106.1.paused))]), (.bool (y106.2.1))])) rfl) (wl_ok (r_extract rfl rfl) (wl_ok (r_extract rfl rfl) (w_allocN h 53 Many101 fun w b115 h => w_stN (vs := [(.bool (y106.1.said)), (.int .i64 (y106.1.n)), (.bool (y106.1.paused))]) h 53 [(.bool (y106.1.said)), (.int .i64 (y106.1.n)), (.bool (y106.1.paused))] rfl Many101 rfl rfl rfl rfl rfl (ones_cons rfl (ones_cons rfl (ones_cons rfl ones_nil))) fun w h => wl_ok (r_assign (v := (.bool (y106.2.1))) rfl) (wl_nil (then_normal (wc_seq (wc_region (wl_ok (r_move (v := (.int .i64 (x64))) rfl) ?_))))))))
         obtain ⟨a116, hs⟩ := o_grd hs
         refine wl_ok (r_add rfl rfl a116) (wl_ok (r_assign (v := (.int .i64 ((x64 + 1)))) rfl) (wl_nil (then_normal (wc_seq (wc_seq (wc_region (wl_ok (r_move (v := (.bool (y106.2.1))) rfl) (wl_ok (r_notb rfl) (wl_nil (then_normal (wc_ifb hs rfl (fun c117 hs => ?_) (fun c117 hs => ?_))))))))))))
         ·
          refine wc_seq (wc_region (wl_ok (r_fieldAddr Fld26x2 rfl) (w_st1 h 4 [v65, v68, (.int .i64 (2)), (.int .i64 (y72))] rfl One3 rfl rfl rfl rfl rfl fun w h => wl_nil (then_normal (wc_exit (then_exit (inBlock_ne (by decide) (then_exit (inBlock_eq (then_loop ?_))))))))))
          replace h := h.moveO 41 25 rfl rfl (by decide)
          replace h := (h.dropC 10).moveC 42 10 rfl rfl (by decide)
          replace h := (h.dropC 11).moveC 43 11 rfl rfl (by decide)
          replace h := (h.dropC 12).moveC 44 12 rfl rfl (by decide)
          replace h := (h.dropC 13).moveC 45 13 rfl rfl (by decide)
          exact jend (v62, x63, (x64 + 1), v65, us66, y67, v68, us69, y70, 2, y72) ⟨h.cn _, hs⟩
         ·
          refine wc_skip (then_normal (wc_join (σ := Value × List Int) (inl [11, 82, 83, 84, 85, 86, 87, 88, 89]) (fun ⟨v118, x119⟩ => [(11, v118)]) (fun ⟨v118, x119⟩ w => SH w0 M BE w (hset [(1, .rd rProc va a), (4, .blk b1 [u108, u110, (.int .i64 (y106.2.2.status)), (.int .i64 (y106.2.2.wher))]), (5, .blk b2 [(.slice none 0 0), (.slice none 0 0), (.int .i64 (0)), (.int .i64 (0))]), (41, .own rInt 3 v118 x119), (48, .own nFrame.raw 49 u108 (List.zip y106.2.2.frames us109)), (49, .pce (famS rVal 51 hn us109 (List.map nFrame.sub y106.2.2.frames))), (50, .own (nLst Val).raw 47 u110 (List.zip y106.2.2.cells us111)), (51, .pce (famS rVal 51 hn us111 (List.map (nLst Val).sub y106.2.2.cells))), (53, .blk b115 [(.bool (y106.1.said)), (.int .i64 (y106.1.n)), (.bool (y106.1.paused))])]) ∧ vm_Run_j16 y106 x64 nx77 x119 = some r) ?_ ?_))
          ·
           rintro ⟨v118, x119⟩ w junk ⟨h, hs⟩
           refine wc_seq (wc_region (wl_ok (r_fieldAddr Fld101x2 rfl) (wl_ok (r_ldB h 53 rfl One4 rfl rfl) (wl_nil (then_normal (wc_ifb hs rfl (fun c120 hs => ?_) (fun c120 hs => ?_)))))))
           ·
            refine wc_exit (inBlock_ne (by decide) (then_exit (inBlock_eq (then_loop ?_))))
            replace h := h.moveO 41 25 rfl rfl (by decide)
            replace h := (h.dropC 10).moveC 48 10 rfl rfl (by decide)
            replace h := (h.dropC 11).moveC 49 11 rfl rfl (by decide)
            replace h := (h.dropC 12).moveC 50 12 rfl rfl (by decide)
            replace h := (h.dropC 13).moveC 51 13 rfl rfl (by decide)
            exact jend (v118, x119, (x64 + 1), u108, us109, y106.2.2.frames, u110, us111, y106.2.2.cells, y106.2.2.status, y106.2.2.wher) ⟨h.cn _, hs⟩
           ·
            refine wc_skip (inBlock_normal (then_loop ?_))
            replace h := (h.dropC 42).moveC 48 42 rfl rfl (by decide)
            replace h := (h.dropC 43).moveC 49 43 rfl rfl (by decide)
            replace h := (h.dropC 44).moveC 50 44 rfl rfl (by decide)
            replace h := (h.dropC 45).moveC 51 45 rfl rfl (by decide)
            subst hnx77
            exact lend ⟨m761, v118, x119, (x64 + 1), u108, us109, y106.2.2.frames, u110, us111, y106.2.2.cells, y106.2.2.status, y106.2.2.wher⟩ ⟨h.cn _, hs⟩
          ·
           refine wc_seq (wc_region (wl_ok (r_ldBN (vs := [u108, u110, (.int .i64 (y106.2.2.status)), (.int .i64 (y106.2.2.wher))]) h 52 rfl Many26 rfl rfl rfl) (w_stN (vs := [u108, u110, (.int .i64 (y106.2.2.status)), (.int .i64 (y106.2.2.wher))]) h 4 [u108, u110, (.int .i64 (y106.2.2.status)), (.int .i64 (y106.2.2.wher))] rfl Many26 rfl rfl rfl rfl rfl (ones_cons (h.ownAt 48 rfl).one (ones_cons (h.ownAt 50 rfl).one (ones_cons rfl (ones_cons rfl ones_nil)))) fun w h => wl_nil (then_normal (wc_seq (wc_region (wl_ok (r_fieldAddr Fld101x0 rfl) (wl_ok (r_ldB h 53 rfl One4 rfl rfl) (wl_nil (then_normal (wc_ifb hs rfl (fun c121 hs => ?_) (fun c121 hs => ?_))))))))))))
           ·
            refine wc_region (wl_ok (r_move (v := v62) rfl) (wl_ok (r_fieldAddr Fld101x1 rfl) (wl_ok (r_ldB h 53 rfl One3 rfl rfl) (w_bs (R := rInt) (vs := [(.int .i64 (y106.1.n))]) (xs := [y106.1.n]) h 54 ElemOf27 rfl rfl rfl ⟨rfl, trivial⟩ rfl fun w u122 h => ?_))))
            obtain ⟨a123, hs⟩ := o_grd hs
            refine w_app (R := rInt) (m := [y106.1.n]) h 41 rfl (h.ownS 54 rfl) ElemOf27 rfl rfl rfl a123.1 a123.2 fun w u124 h => wl_ok (r_assign (v := u124) rfl) (wl_nil (then_loop ?_))
            exact jend (u124, (x63 ++ [y106.1.n])) ⟨h.cn _, hs⟩
           ·
            refine wc_skip (then_loop ?_)
            exact jend (v62, x63) ⟨h.cn _, hs⟩
       ·
        refine wc_still mixed (by kernel_rfl) h fun w h => wk_ok (r_move (v := v62) rfl) (wk_ok (r_len SliceOf27 rfl (h.ownS 41 rfl)) (wk_ok (r_eql rfl rfl) (wk_ok (r_move (v := (.bool (decide (((x63.length : Int) : Int) = 40)))) rfl) (c_split (b := decide (((x63.length : Int) : Int) = 40)) hs (fun c125 hs => ?_) (fun c125 hs => ?_)))))
        ·
         refine wk_on rfl (congrArg Value.bool c125) (wk_ok (r_move (v := va) rfl) (wk_on rfl (congrArg Value.bool c125) (wk_ok (r_fieldAddr Fld49x0 rfl) (wk_on rfl (congrArg Value.bool c125) (wk_ok (r_ldB h 47 rfl One3 rfl rfl) (wk_on rfl (congrArg Value.bool c125) ?_))))))
         obtain ⟨x126, e127, hs⟩ := o_bind hs
         obtain ⟨b129, o130, cs131, h, r132, i128⟩ := h.ixR 1 55 rfl SliceOf22 rfl (o_idx e127).1 (o_idx e127).2
         obtain ⟨u133, rfl, g134⟩ := rProc_open r132
         replace h := h.knowRd 56 g134.up
         refine wk_ok (i128 _ _ _ _ _ _ _ _ _ rfl rfl) (wk_on rfl (congrArg Value.bool c125) (wk_ok (r_fieldAddr Fld57x2 rfl) (wk_on rfl (congrArg Value.bool c125) (wk_ok (r_ldP (k := 2) h 55 rfl One55 rfl rfl) (wk_on rfl (congrArg Value.bool c125) (wk_ok (r_fieldAddr Fld49x1 rfl) (wk_on rfl (congrArg Value.bool c125) (wk_ok (r_ldB h 47 rfl One3 rfl rfl) (wk_on rfl (congrArg Value.bool c125) ?_)))))))))
         obtain ⟨x135, e136, hs⟩ := o_bind hs
         obtain ⟨b138, o139, cs140, h, r141, i137⟩ := h.ixR 56 57 rfl SliceOf55 rfl (o_idx e136).1 (o_idx e136).2
         obtain ⟨u142, rfl, g143⟩ := rIns_open r141
         replace h := h.knowRd 58 g143.up
         refine wk_ok (i137 _ _ _ _ _ _ _ _ _ rfl rfl) (wk_on rfl (congrArg Value.bool c125) (wk_ok (r_fieldAddr Fld93x0 rfl) (wk_on rfl (congrArg Value.bool c125) (wk_ok (r_ldP (k := 0) h 57 rfl One3 rfl rfl) (wk_on rfl (congrArg Value.bool c125) (wk_ok (r_eql rfl rfl) (wk_ok (r_pick (b := true) (v := (.bool (decide ((x135.op : Int) = 9)))) (congrArg Value.bool c125) rfl) (wk_end ?_))))))))
         replace h := h.dnClose0 43 46 rfl rfl (by decide) (o_idx e83).2 e88 rfl
         refine then_loop ?_
         exact jend (decide ((x135.op : Int) = 9)) ⟨h.cn _, hs⟩
        ·
         refine wk_off (b' := false) rfl (congrArg Value.bool c125) rfl (wk_off (b' := false) rfl (congrArg Value.bool c125) rfl (wk_off (b' := false) rfl (congrArg Value.bool c125) rfl (wk_off (b' := false) rfl (congrArg Value.bool c125) rfl (wk_off (b' := false) rfl (congrArg Value.bool c125) rfl (wk_off (b' := false) rfl (congrArg Value.bool c125) rfl (wk_off (b' := false) rfl (congrArg Value.bool c125) rfl (wk_off (b' := false) rfl (congrArg Value.bool c125) rfl (wk_off (b' := false) rfl (congrArg Value.bool c125) rfl (wk_off (b' := false) rfl (congrArg Value.bool c125) rfl (wk_off (b' := false) rfl (congrArg Value.bool c125) rfl (wk_off (b' := false) rfl (congrArg Value.bool c125) rfl (wk_ok (r_pick (b := false) (v := (.bool (false))) (congrArg Value.bool c125) rfl) (wk_end ?_)))))))))))))
         replace h := h.dnClose0 43 46 rfl rfl (by decide) (o_idx e83).2 e88 rfl
         refine then_loop ?_
         exact jend false ⟨h.cn _, hs⟩
      ·
       refine wc_exit (then_exit (then_exit (inBlock_eq (then_loop ?_))))
       replace h := h.moveO 41 25 rfl rfl (by decide)
       replace h := (h.dropC 10).moveC 42 10 rfl rfl (by decide)
       replace h := (h.dropC 11).moveC 43 11 rfl rfl (by decide)
       replace h := (h.dropC 12).moveC 44 12 rfl rfl (by decide)
       replace h := (h.dropC 13).moveC 45 13 rfl rfl (by decide)
       exact jend (v62, x63, x64, v65, us66, y67, v68, us69, y70, y71, y72) ⟨h.cn _, hs⟩
def vm_Wake (a : List Proc) (b : LX.State) : Option (LX.State × Int) :=
  (vm_Check a b).bind fun y3 => bif decide ((y3 : Int) ≠ 0) then some ((⟨[], [], 0, 0⟩ : LX.State), y3) else bif decide ((b.status : Int) ≠ 3) then some ((⟨[], [], 0, 0⟩ : LX.State), 7) else (vm_Copy b).bind fun y8 => some ((⟨y8.frames, y8.cells, 0, 0⟩ : LX.State), 0)
theorem vm_Wake_c (w0 : World) (M : BS) (hM : ∀ b, M b → b < w0.heap.size) (va : Value) (a : List Proc) (ha : Rd2 rProc w0 BE M va a) (b : LX.State) (vb0 vb1 : Value) (hb0 : Rd2 rFrame w0 BE M vb0 b.frames) (hb1 : Rd2 (rSl rVal) w0 BE M vb1 b.cells) (r : LX.State × Int) (hs : vm_Wake a b = some r) :
    Calls Tryz.prog 30 #[va, (.agg #[vb0, vb1, (.int .i64 (b.status)), (.int .i64 (b.wher))])] w0 (fun e w' => Grow w0 w' ∧ ∃ u0_0, ∃ u0_1, e = .returned (.tuple #[.agg #[u0_0, u0_1, .int .i64 r.1.status, .int .i64 r.1.wher], .int .i64 r.2]) ∧ RdSl rFrame w' M u0_0 r.1.frames ∧ RdSl (rSl rVal) w' M u0_1 r.1.cells) := by
 refine calls_start (args := [va, (.agg #[vb0, vb1, (.int .i64 (b.status)), (.int .i64 (b.wher))])]) Tryz.func30 rfl Tryz.ntmps30 (Nat.le_of_ble_eq_true rfl) ?_
 have h := SH.init hM
 replace h := h.argSr 1 ha none_own
 replace h := h.argSr 2 hb0 (hupd_own_sr none_own)
 replace h := h.argSr 3 hb1 (hupd_own_sr (hupd_own_sr none_own))
 have hl_a := ha.len_le
 refine wc_seq (wc_region (w_box (cs := [vb0, vb1, (.int .i64 (b.status)), (.int .i64 (b.wher))]) h 4 rfl rfl fun w b1 h => w_allocN h 5 Many26 fun w b2 h => wl_ok (r_assign (v := (.int .i64 (0))) rfl) (wl_nil (then_normal (wc_seq (wc_seq (wc_region (wl_ok (r_move (v := va) rfl) (wl_ok (r_ldBN (vs := [vb0, vb1, (.int .i64 (b.status)), (.int .i64 (b.wher))]) h 4 rfl Many26 rfl rfl rfl) ?_)))))))))
 obtain ⟨y3, e4, hs⟩ := o_bind hs
 refine w_call fnOk27 rfl rfl (vm_Check_c _ _ h.lt va a (h.srS 1 rfl) b vb0 vb1 (h.srS 2 rfl) (h.srS 3 rfl) _ e4) ?_
 rintro _ w ⟨k5, rfl⟩
 refine ⟨_, rfl, ?_⟩
 replace h := h.grow k5
 refine wl_ok (r_assign (v := (.int .i64 (y3))) rfl) (wl_nil (then_normal (wc_seq (wc_region (wl_ok (r_move (v := (.int .i64 (y3))) rfl) (wl_ok (r_neq rfl rfl) (wl_nil (then_normal (wc_ifb hs rfl (fun c6 hs => ?_) (fun c6 hs => ?_))))))))))
 ·
  refine wc_seq (wc_region (wl_ok (r_build (pv := []) (out := [(.slice none 0 0), (.slice none 0 0), (.int .i64 (0)), (.int .i64 (0))]) Struct26 rfl rfl) (wl_ok (r_move (v := (.int .i64 (y3))) rfl) (w_stN (vs := [(.slice none 0 0), (.slice none 0 0), (.int .i64 (0)), (.int .i64 (0))]) h 5 [(.slice none 0 0), (.slice none 0 0), (.int .i64 (0)), (.int .i64 (0))] rfl Many26 rfl rfl rfl rfl rfl (ones_cons rfl (ones_cons rfl (ones_cons rfl (ones_cons rfl ones_nil)))) fun w h => wl_ok (r_assign (v := (.int .i64 (y3))) rfl) (wl_nil (then_normal (wc_ret (then_ret (fin_ct (vs := [(.slice none 0 0), (.slice none 0 0), (.int .i64 (0)), (.int .i64 (0))]) (v2 := (.int .i64 (y3))) Tryz.results30 rfl rfl h 5 rfl Many26 rfl ?_)))))))))
  obtain rfl := Option.some.inj hs
  exact ⟨h.grown, _, _, rfl, Rd2.nil, Rd2.nil⟩
 ·
  refine wc_skip (then_normal (wc_seq (wc_seq (wc_region (wl_ok (r_fieldAddr Fld26x2 rfl) (wl_ok (r_ldB h 4 rfl One3 rfl rfl) (wl_ok (r_neq rfl rfl) (wl_nil (then_normal (wc_ifb hs rfl (fun c7 hs => ?_) (fun c7 hs => ?_)))))))))))
  ·
   refine wc_seq (wc_region (wl_ok (r_build (pv := []) (out := [(.slice none 0 0), (.slice none 0 0), (.int .i64 (0)), (.int .i64 (0))]) Struct26 rfl rfl) (w_stN (vs := [(.slice none 0 0), (.slice none 0 0), (.int .i64 (0)), (.int .i64 (0))]) h 5 [(.slice none 0 0), (.slice none 0 0), (.int .i64 (0)), (.int .i64 (0))] rfl Many26 rfl rfl rfl rfl rfl (ones_cons rfl (ones_cons rfl (ones_cons rfl (ones_cons rfl ones_nil)))) fun w h => wl_ok (r_assign (v := (.int .i64 (7))) rfl) (wl_nil (then_normal (wc_ret (then_ret (fin_ct (vs := [(.slice none 0 0), (.slice none 0 0), (.int .i64 (0)), (.int .i64 (0))]) (v2 := (.int .i64 (7))) Tryz.results30 rfl rfl h 5 rfl Many26 rfl ?_))))))))
   obtain rfl := Option.some.inj hs
   exact ⟨h.grown, _, _, rfl, Rd2.nil, Rd2.nil⟩
  ·
   refine wc_skip (then_normal (wc_seq (wc_region (wl_ok (r_ldBN (vs := [vb0, vb1, (.int .i64 (b.status)), (.int .i64 (b.wher))]) h 4 rfl Many26 rfl rfl rfl) ?_))))
   obtain ⟨y8, e9, hs⟩ := o_bind hs
   refine w_call fnOk49 rfl rfl (vm_Copy_c _ _ h.lt b vb0 vb1 (h.srS 2 rfl) (h.srS 3 rfl) _ e9) ?_
   rintro _ w ⟨k16, u10, u12, us11, us13, rfl, h14, h15⟩
   refine ⟨_, rfl, ?_⟩
   replace h := h.gotC 6 (C := (.two (.two (.two (.own nFrame.raw 49 u10 (List.zip y8.frames us11)) (.pce (famS rVal 51 hn us11 (List.map nFrame.sub y8.frames)))) (.own (nLst Val).raw 47 u12 (List.zip y8.cells us13))) (.pce (famS rVal 51 hn us13 (List.map (nLst Val).sub y8.cells))) : Chunk)) k16 ⟨⟨⟨trivial, trivial⟩, trivial⟩, trivial⟩ h14 h15
   replace h := h.unpair 6 9 (by decide) rfl rfl
   replace h := h.unpair 6 8 (by decide) rfl rfl
   replace h := h.unpair 6 7 (by decide) rfl rfl
   refine w_stN (vs := [u10, u12, (.int .i64 (y8.status)), (.int .i64 (y8.wher))]) h 4 [u10, u12, (.int .i64 (y8.status)), (.int .i64 (y8.wher))] rfl Many26 rfl rfl rfl rfl rfl (ones_cons (h.ownAt 6 rfl).one (ones_cons (h.ownAt 8 rfl).one (ones_cons rfl (ones_cons rfl ones_nil)))) fun w h => wl_nil (then_normal (wc_seq (wc_region (wl_ok (r_fieldAddr Fld26x2 rfl) (w_st1 h 4 [u10, u12, (.int .i64 (0)), (.int .i64 (y8.wher))] rfl One3 rfl rfl rfl rfl rfl fun w h => wl_ok (r_fieldAddr Fld26x3 rfl) (w_st1 h 4 [u10, u12, (.int .i64 (0)), (.int .i64 (0))] rfl One3 rfl rfl rfl rfl rfl fun w h => wl_nil (then_normal (wc_seq (wc_region (wl_ok (r_ldBN (vs := [u10, u12, (.int .i64 (0)), (.int .i64 (0))]) h 4 rfl Many26 rfl rfl rfl) (w_stN (vs := [u10, u12, (.int .i64 (0)), (.int .i64 (0))]) h 5 [u10, u12, (.int .i64 (0)), (.int .i64 (0))] rfl Many26 rfl rfl rfl rfl rfl (ones_cons (h.ownAt 6 rfl).one (ones_cons (h.ownAt 8 rfl).one (ones_cons rfl (ones_cons rfl ones_nil)))) fun w h => wl_ok (r_assign (v := (.int .i64 (0))) rfl) (wl_nil (then_normal (wc_ret (fin_ct (vs := [u10, u12, (.int .i64 (0)), (.int .i64 (0))]) (v2 := (.int .i64 (0))) Tryz.results30 rfl rfl h 5 rfl Many26 rfl ?_)))))))))))))))
   replace h := h.dnFreeze (N := nFrame) (R' := rFrame) 6 7 rfl rfl (by decide) rfl nFrame_br
   replace h := h.dnFreeze (N := (nLst Val)) (R' := (rSl rVal)) 8 9 rfl rfl (by decide) rfl nLst_br
   obtain rfl := Option.some.inj hs
   exact ⟨h.grown, _, _, rfl, h.outRd 6 rfl, h.outRd 8 rfl⟩
def slices_Equal_int_b3 (a : List Int) (b : List Int) (i3 : Int) (s : Unit) (nx6 : Unit → Option Bool) : Option Bool :=
  (idx a i3).bind fun x9 => (idx b i3).bind fun x16 => bif decide ((x9 : Int) ≠ x16) then some false else nx6 ()
def slices_Equal_int_k4 (s : Unit) : Option Bool :=
  some true
def slices_Equal_int (a : List Int) (b : List Int) : Option Bool :=
  bif decide (((a.length : Int) : Int) ≠ (b.length : Int)) then some false else upto (slices_Equal_int_b3 a b) slices_Equal_int_k4 0 ((a.length : Int)).toNat ()
theorem slices_Equal_int_c (w0 : World) (M : BS) (hM : ∀ b, M b → b < w0.heap.size) (va : Value) (a : List Int) (ha : Rd2 rInt w0 BE M va a) (vb : Value) (b : List Int) (hb : Rd2 rInt w0 BE M vb b) (r : Bool) (hs : slices_Equal_int a b = some r) :
    Calls Tryz.prog 18 #[va, vb] w0 (fun e w' => Grow w0 w' ∧ e = .returned (.bool r)) := by
 refine calls_start (args := [va, vb]) Tryz.func18 rfl Tryz.ntmps18 (Nat.le_of_ble_eq_true rfl) ?_
 have h := SH.init hM
 replace h := h.argSr 1 ha none_own
 replace h := h.argSr 2 hb (hupd_own_sr none_own)
 have hl_a := ha.len_le
 have hl_b := hb.len_le
 refine wc_seq (wc_region (wl_ok (r_assign (v := (.bool (false))) rfl) (wl_nil (then_normal (wc_seq (wc_seq (wc_region (wl_ok (r_move (v := va) rfl) (wl_ok (r_len SliceOf27 rfl (h.srS 1 rfl)) (wl_ok (r_move (v := vb) rfl) (wl_ok (r_len SliceOf27 rfl (h.srS 2 rfl)) (wl_ok (r_neq rfl rfl) (wl_nil (then_normal (wc_ifb hs rfl (fun c1 hs => ?_) (fun c1 hs => ?_))))))))))))))))
 ·
  refine wc_seq (wc_region (wl_ok (r_assign (v := (.bool (false))) rfl) (wl_nil (then_normal (wc_ret (then_ret (fin1 (v := (.bool (false))) Tryz.results18 rfl ?_)))))))
  obtain rfl := Option.some.inj hs
  exact ⟨h.grown, rfl⟩
 ·
  refine wc_skip (then_normal (wc_seq (wc_seq (wc_region (wl_ok (r_move (v := va) rfl) (wl_ok (r_len SliceOf27 rfl (h.srS 1 rfl)) (wl_ok (r_move (v := (.int .i64 (0))) rfl) (wl_nil (then_normal (wc_block ?_))))))))))
  have hli3 := (h.srS 1 rfl).len_le
  refine wc_lp (σ := Nat × Int) (inl [4, 5, 13, 14, 15, 16, 17, 18, 19, 20, 21, 22, 23, 24, 25]) (fun ⟨k2, i3⟩ => [(13, (.int .i64 (i3)))]) (fun ⟨k2, i3⟩ w => SH w0 M BE w (hset [(1, .sr rInt va a), (2, .sr rInt vb b)]) ∧ i3 = (k2 : Int) ∧ upto (slices_Equal_int_b3 a b) slices_Equal_int_k4 i3 (((a.length : Int)).toNat - k2) () = some r) (fun ⟨k2, i3⟩ => ((a.length : Int)).toNat - k2) ⟨0, 0⟩ ⟨rfl, trivial⟩ ?_ ?_
  ·
   exact ⟨h.cn _, rfl, hs⟩
  ·
   rintro ⟨k2, i3⟩ w junk ⟨h, hik, hs⟩
   refine wc_seq (wc_region ?_)
   refine wl_ok (r_lss rfl rfl) (wl_nil (then_normal ?_))
   refine wc_seq (wc_if rfl (fun e7 => ?_) (fun e7 => ?_))
   ·
    refine wc_skip (then_normal ?_)
    rw [upto_lt (by have := of_decide_eq_true e7; omega)] at hs
    generalize hnx6 : upto (slices_Equal_int_b3 a b) slices_Equal_int_k4 (i3 + 1) (((a.length : Int)).toNat - (k2 + 1)) = nx6 at hs
    have e8r : I64 (i3 + 1) := (by have := of_decide_eq_true e7; have := hli3; exact I64.mk (by omega) (by omega))
    refine wc_seq (wc_block (wc_seq (wc_region (wl_ok (r_move (v := (.int .i64 (i3))) rfl) (wl_ok (r_assign (v := (.int .i64 (i3))) rfl) (wl_nil (then_normal (wc_seq (wc_still mixed (by kernel_rfl) h fun w h => wk_ok (r_move (v := va) rfl) (wk_ok (r_move (v := (.int .i64 (i3))) rfl) ?_))))))))))
    obtain ⟨x9, e10, hs⟩ := o_bind hs
    obtain ⟨b12, o13, cs14, h, r15, i11⟩ := h.ixS 1 3 rfl SliceOf27 rfl (o_idx e10).1 (o_idx e10).2
    obtain rfl := r15
    refine wk_ok (i11 _ _ _ _ _ _ _ _ _ rfl rfl) (wk_ok (r_ldP (k := 0) h 3 rfl One3 rfl rfl) (wk_ok (r_move (v := vb) rfl) (wk_ok (r_move (v := (.int .i64 (i3))) rfl) ?_)))
    obtain ⟨x16, e17, hs⟩ := o_bind hs
    obtain ⟨b19, o20, cs21, h, r22, i18⟩ := h.ixS 2 4 rfl SliceOf27 rfl (o_idx e17).1 (o_idx e17).2
    obtain rfl := r22
    refine wk_ok (i18 _ _ _ _ _ _ _ _ _ rfl rfl) (wk_ok (r_ldP (k := 0) h 4 rfl One3 rfl rfl) (wk_ok (r_neq rfl rfl) (wk_end (then_normal (wc_ifb hs rfl (fun c23 hs => ?_) (fun c23 hs => ?_))))))
    ·
     refine wc_seq (wc_region (wl_ok (r_assign (v := (.bool (false))) rfl) (wl_nil (then_normal (wc_ret (inBlock_ret (then_ret (then_ret (inBlock_ret (then_ret (fin1 (v := (.bool (false))) Tryz.results18 rfl ?_)))))))))))
     obtain rfl := Option.some.inj hs
     exact ⟨h.grown, rfl⟩
    ·
     refine wc_skip (inBlock_normal (then_normal (wc_region (wl_ok (r_add rfl rfl e8r) (wl_ok (r_move (v := (.int .i64 ((i3 + 1)))) rfl) (wl_nil (then_loop ?_)))))))
     subst hnx6
     exact lend ⟨k2 + 1, i3 + 1⟩ ⟨h.cn _, by omega, hs⟩ (by have := of_decide_eq_true e7; dsimp only; omega)
   ·
    rw [upto_ge (by have := of_decide_eq_false e7; omega)] at hs
    refine wc_exit (then_exit (then_exit (inBlock_eq (then_normal (wc_seq (wc_region (wl_ok (r_assign (v := (.bool (true))) rfl) (wl_nil (then_normal (wc_ret (fin1 (v := (.bool (true))) Tryz.results18 rfl ?_)))))))))))
    obtain rfl := Option.some.inj hs
    exact ⟨h.grown, rfl⟩
def wandererlaw_ran (N : Nat) : Option Bool :=
  (wandererlaw_program N).bind fun y1 => (wandererref_Coded N y1).bind fun y7 => (vm_New y7).bind fun y13 => (vm_Run N y7 y13.1 100).bind fun y21 => (vm_Wake y7 y21.1).bind fun y31 => (vm_Run N y7 y31.1 1).bind fun y38 => (vm_Run N y7 y38.1 100).bind fun y48 => bif ((((decide ((y13.2 : Int) = 0) && decide ((y21.2.2.2 : Int) = 0)) && decide ((y31.2 : Int) = 0)) && decide ((y38.2.2.2 : Int) = 0)) && decide ((y48.2.2.2 : Int) = 0)) then (slices_Equal_int y21.2.1 [9]).bind fun y61 => bif ((y61 && decide (((y38.2.1.length : Int) : Int) = 0)) && decide ((y38.2.2.1 : Int) = 1)) then (slices_Equal_int y48.2.1 [4]).bind fun y66 => bif y66 then (vm_Check y7 y38.1).bind fun y70 => some (decide ((y70 : Int) = 0)) else some false else some false else some false
theorem wandererlaw_ran_c (N : Nat) (w0 : World) (M : BS) (hM : ∀ b, M b → b < w0.heap.size) (hT : Tabs Tryz.prog 4 w0)  (r : Bool) (hs : wandererlaw_ran N = some r) :
    Calls Tryz.prog 26 #[] w0 (fun e w' => Grow w0 w' ∧ e = .returned (.bool r)) := by
 refine calls_start (args := []) Tryz.func26 rfl Tryz.ntmps26 (Nat.le_of_ble_eq_true rfl) ?_
 have h := SH.init hM
 refine wc_seq (wc_region (wl_ok (r_assign (v := (.bool (false))) rfl) (wl_nil (then_normal (wc_seq (wc_region ?_))))))
 obtain ⟨y1, e2, hs⟩ := o_bind hs
 refine w_call fnOk40 rfl rfl (wandererlaw_program_c N _ _ h.lt (hT.go h.keep)  _ e2) ?_
 rintro _ w ⟨k6, u3, rfl, g4, g5⟩
 refine ⟨_, rfl, ?_⟩
 replace h := h.gotOwn 1 k6 g4 g5
 obtain ⟨y7, e8, hs⟩ := o_bind hs
 refine w_call fnOk39 rfl rfl (wandererref_Coded_c N _ _ h.lt u3 y1 (h.ownS 1 rfl) _ e8) ?_
 rintro _ w ⟨k12, u9, rfl, g10, g11⟩
 refine ⟨_, rfl, ?_⟩
 replace h := h.gotOwn 2 k12 g10 g11
 refine wl_ok (r_assign (v := u9) rfl) (wl_nil (then_normal (wc_seq (wc_region (wl_ok (r_move (v := u9) rfl) ?_)))))
 obtain ⟨y13, e14, hs⟩ := o_bind hs
 refine w_call fnOk29 rfl rfl (vm_New_c _ _ h.lt u9 y7 (h.ownS 2 rfl) _ e14) ?_
 rintro _ w ⟨k19, u15, u17, rfl, g16, g18⟩
 refine ⟨_, rfl, ?_⟩
 replace h := h.gotRd 3 k19 g16
 replace h := h.knowRd 4 g18.up
 refine wl_ok (r_move (v := (.tuple #[(.agg #[u15, u17, (.int .i64 (y13.1.status)), (.int .i64 (y13.1.wher))]), (.int .i64 (y13.2))])) rfl) (wl_ok (r_extract rfl rfl) (wl_ok (r_extract rfl rfl) (w_allocN h 5 Many26 fun w b20 h => w_stN (vs := [u15, u17, (.int .i64 (y13.1.status)), (.int .i64 (y13.1.wher))]) h 5 [u15, u17, (.int .i64 (y13.1.status)), (.int .i64 (y13.1.wher))] rfl Many26 rfl rfl rfl rfl rfl (ones_cons (h.rdAt 3 rfl).one (ones_cons (h.rdAt 4 rfl).one (ones_cons rfl (ones_cons rfl ones_nil)))) fun w h => wl_ok (r_assign (v := (.int .i64 (y13.2))) rfl) (wl_nil (then_normal (wc_seq (wc_region (wl_ok (r_move (v := u9) rfl) (wl_ok (r_ldBN (vs := [u15, u17, (.int .i64 (y13.1.status)), (.int .i64 (y13.1.wher))]) h 5 rfl Many26 rfl rfl rfl) ?_)))))))))
 replace h := h.freeze 2 rfl
 obtain ⟨y21, e22, hs⟩ := o_bind hs
 refine w_call fnOk28 rfl rfl (vm_Run_c N _ _ h.lt u9 y7 (h.rdAt 2 rfl) y13.1 u15 u17 (h.rdS 3 rfl) (h.rdS 4 rfl) 100 _ e22) ?_
 rintro _ w ⟨k30, u23, u25, u27, rfl, g24, g26, g28, g29⟩
 refine ⟨_, rfl, ?_⟩
 replace h := h.gotOwn 8 k30 g28 g29
 replace h := h.knowRd 6 g24.upO
 replace h := h.knowRd 7 g26.upO.up
 refine wl_ok (r_move (v := (.tuple #[(.agg #[u23, u25, (.int .i64 (y21.1.status)), (.int .i64 (y21.1.wher))]), u27, (.int .i64 (y21.2.2.1)), (.int .i64 (y21.2.2.2))])) rfl) (wl_ok (r_extract rfl rfl) (wl_ok (r_extract rfl rfl) (wl_ok (r_extract rfl rfl) (wl_ok (r_extract rfl rfl) (w_stN (vs := [u23, u25, (.int .i64 (y21.1.status)), (.int .i64 (y21.1.wher))]) h 5 [u23, u25, (.int .i64 (y21.1.status)), (.int .i64 (y21.1.wher))] rfl Many26 rfl rfl rfl rfl rfl (ones_cons (h.rdAt 6 rfl).one (ones_cons (h.rdAt 7 rfl).one (ones_cons rfl (ones_cons rfl ones_nil)))) fun w h => wl_ok (r_assign (v := u27) rfl) (wl_ok (r_assign (v := (.int .i64 (y21.2.2.1))) rfl) (wl_ok (r_assign (v := (.int .i64 (y21.2.2.2))) rfl) (wl_nil (then_normal (wc_seq (wc_region (wl_ok (r_move (v := u9) rfl) (wl_ok (r_ldBN (vs := [u23, u25, (.int .i64 (y21.1.status)), (.int .i64 (y21.1.wher))]) h 5 rfl Many26 rfl rfl rfl) ?_)))))))))))))
 obtain ⟨y31, e32, hs⟩ := o_bind hs
 refine w_call fnOk30 rfl rfl (vm_Wake_c _ _ h.lt u9 y7 (h.rdS 2 rfl) y21.1 u23 u25 (h.rdS 6 rfl) (h.rdS 7 rfl) _ e32) ?_
 rintro _ w ⟨k37, u33, u35, rfl, g34, g36⟩
 refine ⟨_, rfl, ?_⟩
 replace h := h.gotRd 9 k37 g34
 replace h := h.knowRd 10 g36.up
 refine wl_ok (r_move (v := (.tuple #[(.agg #[u33, u35, (.int .i64 (y31.1.status)), (.int .i64 (y31.1.wher))]), (.int .i64 (y31.2))])) rfl) (wl_ok (r_extract rfl rfl) (wl_ok (r_extract rfl rfl) (w_stN (vs := [u33, u35, (.int .i64 (y31.1.status)), (.int .i64 (y31.1.wher))]) h 5 [u33, u35, (.int .i64 (y31.1.status)), (.int .i64 (y31.1.wher))] rfl Many26 rfl rfl rfl rfl rfl (ones_cons (h.rdAt 9 rfl).one (ones_cons (h.rdAt 10 rfl).one (ones_cons rfl (ones_cons rfl ones_nil)))) fun w h => wl_ok (r_assign (v := (.int .i64 (y31.2))) rfl) (wl_nil (then_normal (wc_seq (wc_region (wl_ok (r_move (v := u9) rfl) (wl_ok (r_ldBN (vs := [u33, u35, (.int .i64 (y31.1.status)), (.int .i64 (y31.1.wher))]) h 5 rfl Many26 rfl rfl rfl) ?_)))))))))
 obtain ⟨y38, e39, hs⟩ := o_bind hs
 refine w_call fnOk28 rfl rfl (vm_Run_c N _ _ h.lt u9 y7 (h.rdAt 2 rfl) y31.1 u33 u35 (h.rdS 9 rfl) (h.rdS 10 rfl) 1 _ e39) ?_
 rintro _ w ⟨k47, u40, u42, u44, rfl, g41, g43, g45, g46⟩
 refine ⟨_, rfl, ?_⟩
 replace h := h.gotOwn 13 k47 g45 g46
 replace h := h.knowRd 11 g41.upO
 replace h := h.knowRd 12 g43.upO.up
 refine wl_ok (r_move (v := (.tuple #[(.agg #[u40, u42, (.int .i64 (y38.1.status)), (.int .i64 (y38.1.wher))]), u44, (.int .i64 (y38.2.2.1)), (.int .i64 (y38.2.2.2))])) rfl) (wl_ok (r_extract rfl rfl) (wl_ok (r_extract rfl rfl) (wl_ok (r_extract rfl rfl) (wl_ok (r_extract rfl rfl) (w_stN (vs := [u40, u42, (.int .i64 (y38.1.status)), (.int .i64 (y38.1.wher))]) h 5 [u40, u42, (.int .i64 (y38.1.status)), (.int .i64 (y38.1.wher))] rfl Many26 rfl rfl rfl rfl rfl (ones_cons (h.rdAt 11 rfl).one (ones_cons (h.rdAt 12 rfl).one (ones_cons rfl (ones_cons rfl ones_nil)))) fun w h => wl_ok (r_assign (v := u44) rfl) (wl_ok (r_assign (v := (.int .i64 (y38.2.2.1))) rfl) (wl_ok (r_assign (v := (.int .i64 (y38.2.2.2))) rfl) (wl_nil (then_normal (wc_seq (wc_region (wl_ok (r_move (v := u9) rfl) (wl_ok (r_ldBN (vs := [u40, u42, (.int .i64 (y38.1.status)), (.int .i64 (y38.1.wher))]) h 5 rfl Many26 rfl rfl rfl) ?_)))))))))))))
 obtain ⟨y48, e49, hs⟩ := o_bind hs
 refine w_call fnOk28 rfl rfl (vm_Run_c N _ _ h.lt u9 y7 (h.rdAt 2 rfl) y38.1 u40 u42 (h.rdS 11 rfl) (h.rdS 12 rfl) 100 _ e49) ?_
 rintro _ w ⟨k57, u50, u52, u54, rfl, g51, g53, g55, g56⟩
 refine ⟨_, rfl, ?_⟩
 replace h := h.gotOwn 16 k57 g55 g56
 replace h := h.knowRd 14 g51.upO
 replace h := h.knowRd 15 g53.upO.up
 refine wl_ok (r_move (v := (.tuple #[(.agg #[u50, u52, (.int .i64 (y48.1.status)), (.int .i64 (y48.1.wher))]), u54, (.int .i64 (y48.2.2.1)), (.int .i64 (y48.2.2.2))])) rfl) (wl_ok (r_extract rfl rfl) (wl_ok (r_extract rfl rfl) (wl_ok (r_extract rfl rfl) (wl_ok (r_extract rfl rfl) (w_allocN h 17 Many26 fun w b58 h => w_stN (vs := [u50, u52, (.int .i64 (y48.1.status)), (.int .i64 (y48.1.wher))]) h 17 [u50, u52, (.int .i64 (y48.1.status)), (.int .i64 (y48.1.wher))] rfl Many26 rfl rfl rfl rfl rfl (ones_cons (h.rdAt 14 rfl).one (ones_cons (h.rdAt 15 rfl).one (ones_cons rfl (ones_cons rfl ones_nil)))) fun w h => wl_ok (r_assign (v := u54) rfl) (wl_ok (r_assign (v := (.int .i64 (y48.2.2.1))) rfl) (wl_ok (r_assign (v := (.int .i64 (y48.2.2.2))) rfl) (wl_nil (then_normal (wc_seq (wc_region (wl_ok (r_move (v := (.int .i64 (y13.2))) rfl) (wl_ok (r_eql rfl rfl) (wl_ok (r_move (v := (.bool (decide ((y13.2 : Int) = 0)))) rfl) (wl_gd0 rfl rfl (fun q => r_move (v := (.int .i64 (y21.2.2.2))) rfl) (wl_gd0 rfl rfl (fun q => r_eql (gvt q) rfl) (wl_ok (r_pand rfl rfl evc) (wl_ok (r_move (v := (.bool ((decide ((y13.2 : Int) = 0) && decide ((y21.2.2.2 : Int) = 0))))) rfl) (wl_gd0 rfl rfl (fun q => r_move (v := (.int .i64 (y31.2))) rfl) (wl_gd0 rfl rfl (fun q => r_eql (gvt q) rfl) (wl_ok (r_pand rfl rfl evc) ?_)))))))))))))))))))))
 refine wl_ok (r_move (v := (.bool (((decide ((y13.2 : Int) = 0) && decide ((y21.2.2.2 : Int) = 0)) && decide ((y31.2 : Int) = 0))))) rfl) (wl_gd0 rfl rfl (fun q => r_move (v := (.int .i64 (y38.2.2.2))) rfl) (wl_gd0 rfl rfl (fun q => r_eql (gvt q) rfl) (wl_ok (r_pand rfl rfl evc) (wl_ok (r_move (v := (.bool ((((decide ((y13.2 : Int) = 0) && decide ((y21.2.2.2 : Int) = 0)) && decide ((y31.2 : Int) = 0)) && decide ((y38.2.2.2 : Int) = 0))))) rfl) (wl_gd0 rfl rfl (fun q => r_move (v := (.int .i64 (y48.2.2.2))) rfl) (wl_gd0 rfl rfl (fun q => r_eql (gvt q) rfl) (wl_ok (r_pand rfl rfl evc) (wl_ok (r_move (v := (.bool (((((decide ((y13.2 : Int) = 0) && decide ((y21.2.2.2 : Int) = 0)) && decide ((y31.2 : Int) = 0)) && decide ((y38.2.2.2 : Int) = 0)) && decide ((y48.2.2.2 : Int) = 0))))) rfl) (c_split (b := ((((decide ((y13.2 : Int) = 0) && decide ((y21.2.2.2 : Int) = 0)) && decide ((y31.2 : Int) = 0)) && decide ((y38.2.2.2 : Int) = 0)) && decide ((y48.2.2.2 : Int) = 0))) hs (fun c59 hs => ?_) (fun c59 hs => ?_))))))))))
 ·
  refine wl_on rfl (congrArg Value.bool c59) (wl_ok (r_move (v := u27) rfl) (wl_on rfl (congrArg Value.bool c59) (w_bs (R := rInt) (vs := [(.int .i64 (9))]) (xs := [9]) h 18 ElemOf27 rfl rfl rfl ⟨rfl, trivial⟩ rfl fun w u60 h => wl_on rfl (congrArg Value.bool c59) ?_)))
  obtain ⟨y61, e62, hs⟩ := o_bind hs
  refine w_call fnOk18 rfl rfl (slices_Equal_int_c _ _ h.lt u27 y21.2.1 (h.ownS 8 rfl) u60 [9] (h.ownS 18 rfl) _ e62) ?_
  rintro _ w ⟨k63, rfl⟩
  refine ⟨_, rfl, ?_⟩
  replace h := h.grow k63
  refine wl_ok (r_pick (b := true) (v := (.bool (y61))) (congrArg Value.bool c59) rfl) (wl_ok (r_move (v := (.bool (y61))) rfl) (wl_gd0 rfl rfl (fun q => r_move (v := u44) rfl) (wl_gd0 rfl rfl (fun q => r_len SliceOf27 (gvt q) (h.ownS 13 rfl)) (wl_gd0 rfl rfl (fun q => r_eql (gvt q) rfl) (wl_ok (r_pand rfl rfl evc) (wl_ok (r_move (v := (.bool ((y61 && decide (((y38.2.1.length : Int) : Int) = 0))))) rfl) (wl_gd0 rfl rfl (fun q => r_move (v := (.int .i64 (y38.2.2.1))) rfl) (wl_gd0 rfl rfl (fun q => r_eql (gvt q) rfl) (wl_ok (r_pand rfl rfl evc) (wl_ok (r_move (v := (.bool (((y61 && decide (((y38.2.1.length : Int) : Int) = 0)) && decide ((y38.2.2.1 : Int) = 1))))) rfl) (c_split (b := ((y61 && decide (((y38.2.1.length : Int) : Int) = 0)) && decide ((y38.2.2.1 : Int) = 1))) hs (fun c64 hs => ?_) (fun c64 hs => ?_))))))))))))
  ·
   refine wl_on rfl (congrArg Value.bool c64) (wl_ok (r_move (v := u54) rfl) (wl_on rfl (congrArg Value.bool c64) (w_bs (R := rInt) (vs := [(.int .i64 (4))]) (xs := [4]) h 19 ElemOf27 rfl rfl rfl ⟨rfl, trivial⟩ rfl fun w u65 h => wl_on rfl (congrArg Value.bool c64) ?_)))
   obtain ⟨y66, e67, hs⟩ := o_bind hs
   refine w_call fnOk18 rfl rfl (slices_Equal_int_c _ _ h.lt u54 y48.2.1 (h.ownS 16 rfl) u65 [4] (h.ownS 19 rfl) _ e67) ?_
   rintro _ w ⟨k68, rfl⟩
   refine ⟨_, rfl, ?_⟩
   replace h := h.grow k68
   refine wl_ok (r_pick (b := true) (v := (.bool (y66))) (congrArg Value.bool c64) rfl) (wl_ok (r_move (v := (.bool (y66))) rfl) (c_split (b := y66) hs (fun c69 hs => ?_) (fun c69 hs => ?_)))
   ·
    refine wl_on rfl (congrArg Value.bool c69) (wl_ok (r_move (v := u9) rfl) (wl_on rfl (congrArg Value.bool c69) (wl_ok (r_ldBN (vs := [u40, u42, (.int .i64 (y38.1.status)), (.int .i64 (y38.1.wher))]) h 5 rfl Many26 rfl rfl rfl) (wl_on rfl (congrArg Value.bool c69) ?_))))
    obtain ⟨y70, e71, hs⟩ := o_bind hs
    refine w_call fnOk27 rfl rfl (vm_Check_c _ _ h.lt u9 y7 (h.rdS 2 rfl) y38.1 u40 u42 (h.rdS 11 rfl) (h.rdS 12 rfl) _ e71) ?_
    rintro _ w ⟨k72, rfl⟩
    refine ⟨_, rfl, ?_⟩
    replace h := h.grow k72
    refine wl_on rfl (congrArg Value.bool c69) (wl_ok (r_eql rfl rfl) (wl_ok (r_pick (b := true) (v := (.bool (decide ((y70 : Int) = 0)))) (congrArg Value.bool c69) rfl) (wl_ok (r_assign (v := (.bool (decide ((y70 : Int) = 0)))) rfl) (wl_nil (then_normal (wc_ret (fin1 (v := (.bool (decide ((y70 : Int) = 0)))) Tryz.results26 rfl ?_)))))))
    obtain rfl := Option.some.inj hs
    exact ⟨h.grown, rfl⟩
   ·
    refine wl_off (b' := false) rfl (congrArg Value.bool c69) rfl (wl_off (b' := false) rfl (congrArg Value.bool c69) rfl (wl_off (b' := false) rfl (congrArg Value.bool c69) rfl (wl_off (b' := false) rfl (congrArg Value.bool c69) rfl (wl_ok (r_pick (b := false) (v := (.bool (false))) (congrArg Value.bool c69) rfl) (wl_ok (r_assign (v := (.bool (false))) rfl) (wl_nil (then_normal (wc_ret (fin1 (v := (.bool (false))) Tryz.results26 rfl ?_)))))))))
    obtain rfl := Option.some.inj hs
    exact ⟨h.grown, rfl⟩
  ·
   refine wl_off (b' := false) rfl (congrArg Value.bool c64) rfl (wl_off (b' := false) rfl (congrArg Value.bool c64) rfl (wl_off (b' := false) rfl (congrArg Value.bool c64) rfl (wl_ok (r_pick (b := false) (v := (.bool (false))) (congrArg Value.bool c64) rfl) (wl_ok (r_move (v := (.bool (false))) rfl) (wl_off (b' := false) rfl rfl rfl (wl_off (b' := false) rfl rfl rfl (wl_off (b' := false) rfl rfl rfl (wl_off (b' := false) rfl rfl rfl (wl_ok (r_pick (b := false) (v := (.bool (false))) rfl rfl) (wl_ok (r_assign (v := (.bool (false))) rfl) (wl_nil (then_normal (wc_ret (fin1 (v := (.bool (false))) Tryz.results26 rfl ?_))))))))))))))
   obtain rfl := Option.some.inj hs
   exact ⟨h.grown, rfl⟩
 ·
  refine wl_off (b' := false) rfl (congrArg Value.bool c59) rfl (wl_off (b' := false) rfl (congrArg Value.bool c59) rfl (wl_off (b' := false) rfl (congrArg Value.bool c59) rfl (wl_ok (r_pick (b := false) (v := (.bool (false))) (congrArg Value.bool c59) rfl) (wl_ok (r_move (v := (.bool (false))) rfl) (wl_off (b' := false) rfl rfl rfl (wl_off (b' := false) rfl rfl rfl (wl_off (b' := false) rfl rfl rfl (wl_ok (r_pick (b := false) (v := (.bool (false))) rfl rfl) (wl_ok (r_move (v := (.bool (false))) rfl) (wl_off (b' := false) rfl rfl rfl (wl_off (b' := false) rfl rfl rfl (wl_ok (r_pick (b := false) (v := (.bool (false))) rfl rfl) (wl_ok (r_move (v := (.bool (false))) rfl) (wl_off (b' := false) rfl rfl rfl (wl_off (b' := false) rfl rfl rfl (wl_off (b' := false) rfl rfl rfl (wl_ok (r_pick (b := false) (v := (.bool (false))) rfl rfl) (wl_ok (r_move (v := (.bool (false))) rfl) (wl_off (b' := false) rfl rfl rfl (wl_off (b' := false) rfl rfl rfl (wl_off (b' := false) rfl rfl rfl (wl_off (b' := false) rfl rfl rfl (wl_ok (r_pick (b := false) (v := (.bool (false))) rfl rfl) ?_)))))))))))))))))))))))
  refine wl_ok (r_assign (v := (.bool (false))) rfl) (wl_nil (then_normal (wc_ret (fin1 (v := (.bool (false))) Tryz.results26 rfl ?_))))
  obtain rfl := Option.some.inj hs
  exact ⟨h.grown, rfl⟩
def slices_Equal_Value_b3 (a : List Val) (b : List Val) (i3 : Int) (s : Unit) (nx6 : Unit → Option Bool) : Option Bool :=
  (idx a i3).bind fun x9 => (idx b i3).bind fun x16 => bif !(decide (x9.kind = x16.kind) && decide (x9.n = x16.n)) then some false else nx6 ()
def slices_Equal_Value_k4 (s : Unit) : Option Bool :=
  some true
def slices_Equal_Value (a : List Val) (b : List Val) : Option Bool :=
  bif decide (((a.length : Int) : Int) ≠ (b.length : Int)) then some false else upto (slices_Equal_Value_b3 a b) slices_Equal_Value_k4 0 ((a.length : Int)).toNat ()
theorem slices_Equal_Value_c (w0 : World) (M : BS) (hM : ∀ b, M b → b < w0.heap.size) (va : Value) (a : List Val) (ha : Rd2 rVal w0 BE M va a) (vb : Value) (b : List Val) (hb : Rd2 rVal w0 BE M vb b) (r : Bool) (hs : slices_Equal_Value a b = some r) :
    Calls Tryz.prog 47 #[va, vb] w0 (fun e w' => Grow w0 w' ∧ e = .returned (.bool r)) := by
 refine calls_start (args := [va, vb]) Tryz.func47 rfl Tryz.ntmps47 (Nat.le_of_ble_eq_true rfl) ?_
 have h := SH.init hM
 replace h := h.argSr 1 ha none_own
 replace h := h.argSr 2 hb (hupd_own_sr none_own)
 have hl_a := ha.len_le
 have hl_b := hb.len_le
 refine wc_seq (wc_region (wl_ok (r_assign (v := (.bool (false))) rfl) (wl_nil (then_normal (wc_seq (wc_seq (wc_region (wl_ok (r_move (v := va) rfl) (wl_ok (r_len SliceOf47 rfl (h.srS 1 rfl)) (wl_ok (r_move (v := vb) rfl) (wl_ok (r_len SliceOf47 rfl (h.srS 2 rfl)) (wl_ok (r_neq rfl rfl) (wl_nil (then_normal (wc_ifb hs rfl (fun c1 hs => ?_) (fun c1 hs => ?_))))))))))))))))
 ·
  refine wc_seq (wc_region (wl_ok (r_assign (v := (.bool (false))) rfl) (wl_nil (then_normal (wc_ret (then_ret (fin1 (v := (.bool (false))) Tryz.results47 rfl ?_)))))))
  obtain rfl := Option.some.inj hs
  exact ⟨h.grown, rfl⟩
 ·
  refine wc_skip (then_normal (wc_seq (wc_seq (wc_region (wl_ok (r_move (v := va) rfl) (wl_ok (r_len SliceOf47 rfl (h.srS 1 rfl)) (wl_ok (r_move (v := (.int .i64 (0))) rfl) (wl_nil (then_normal (wc_block ?_))))))))))
  have hli3 := (h.srS 1 rfl).len_le
  refine wc_lp (σ := Nat × Int) (inl [4, 5, 13, 14, 15, 16, 17, 18, 19, 20, 21, 22, 23, 24, 25]) (fun ⟨k2, i3⟩ => [(13, (.int .i64 (i3)))]) (fun ⟨k2, i3⟩ w => SH w0 M BE w (hset [(1, .sr rVal va a), (2, .sr rVal vb b)]) ∧ i3 = (k2 : Int) ∧ upto (slices_Equal_Value_b3 a b) slices_Equal_Value_k4 i3 (((a.length : Int)).toNat - k2) () = some r) (fun ⟨k2, i3⟩ => ((a.length : Int)).toNat - k2) ⟨0, 0⟩ ⟨rfl, trivial⟩ ?_ ?_
  ·
   exact ⟨h.cn _, rfl, hs⟩
  ·
   rintro ⟨k2, i3⟩ w junk ⟨h, hik, hs⟩
   refine wc_seq (wc_region ?_)
   refine wl_ok (r_lss rfl rfl) (wl_nil (then_normal ?_))
   refine wc_seq (wc_if rfl (fun e7 => ?_) (fun e7 => ?_))
   ·
    refine wc_skip (then_normal ?_)
    rw [upto_lt (by have := of_decide_eq_true e7; omega)] at hs
    generalize hnx6 : upto (slices_Equal_Value_b3 a b) slices_Equal_Value_k4 (i3 + 1) (((a.length : Int)).toNat - (k2 + 1)) = nx6 at hs
    have e8r : I64 (i3 + 1) := (by have := of_decide_eq_true e7; have := hli3; exact I64.mk (by omega) (by omega))
    refine wc_seq (wc_block (wc_seq (wc_region (wl_ok (r_move (v := (.int .i64 (i3))) rfl) (wl_ok (r_assign (v := (.int .i64 (i3))) rfl) (wl_nil (then_normal (wc_seq (wc_still mixed (by kernel_rfl) h fun w h => wk_ok (r_move (v := va) rfl) (wk_ok (r_move (v := (.int .i64 (i3))) rfl) ?_))))))))))
    obtain ⟨x9, e10, hs⟩ := o_bind hs
    obtain ⟨b12, o13, cs14, h, r15, i11⟩ := h.ixS 1 3 rfl SliceOf47 rfl (o_idx e10).1 (o_idx e10).2
    obtain rfl := r15
    refine wk_ok (i11 _ _ _ _ _ _ _ _ _ rfl rfl) (wk_ok (r_ldPN (k := 0) (vs := [(.int .i64 (x9.kind)), (.int .i64 (x9.n))]) h 3 rfl Many51 rfl rfl rfl (Nat.le_of_ble_eq_true rfl)) (wk_ok (r_move (v := vb) rfl) (wk_ok (r_move (v := (.int .i64 (i3))) rfl) ?_)))
    obtain ⟨x16, e17, hs⟩ := o_bind hs
    obtain ⟨b19, o20, cs21, h, r22, i18⟩ := h.ixS 2 4 rfl SliceOf47 rfl (o_idx e17).1 (o_idx e17).2
    obtain rfl := r22
    refine wk_ok (i18 _ _ _ _ _ _ _ _ _ rfl rfl) (wk_ok (r_ldPN (k := 0) (vs := [(.int .i64 (x16.kind)), (.int .i64 (x16.n))]) h 4 rfl Many51 rfl rfl rfl (Nat.le_of_ble_eq_true rfl)) (wk_ok (r_neqP PairI51 rfl rfl) (wk_end (then_normal (wc_ifb hs rfl (fun c23 hs => ?_) (fun c23 hs => ?_))))))
    ·
     refine wc_seq (wc_region (wl_ok (r_assign (v := (.bool (false))) rfl) (wl_nil (then_normal (wc_ret (inBlock_ret (then_ret (then_ret (inBlock_ret (then_ret (fin1 (v := (.bool (false))) Tryz.results47 rfl ?_)))))))))))
     obtain rfl := Option.some.inj hs
     exact ⟨h.grown, rfl⟩
    ·
     refine wc_skip (inBlock_normal (then_normal (wc_region (wl_ok (r_add rfl rfl e8r) (wl_ok (r_move (v := (.int .i64 ((i3 + 1)))) rfl) (wl_nil (then_loop ?_)))))))
     subst hnx6
     exact lend ⟨k2 + 1, i3 + 1⟩ ⟨h.cn _, by omega, hs⟩ (by have := of_decide_eq_true e7; dsimp only; omega)
   ·
    rw [upto_ge (by have := of_decide_eq_false e7; omega)] at hs
    refine wc_exit (then_exit (then_exit (inBlock_eq (then_normal (wc_seq (wc_region (wl_ok (r_assign (v := (.bool (true))) rfl) (wl_nil (then_normal (wc_ret (fin1 (v := (.bool (true))) Tryz.results47 rfl ?_)))))))))))
    obtain rfl := Option.some.inj hs
    exact ⟨h.grown, rfl⟩
def cell_Same_b7 (b : List (List Val)) (i3 : Int) (x4 : List Val) (s : Unit) (nx6 : Unit → Option Bool) : Option Bool :=
  (idx b i3).bind fun x16 => (slices_Equal_Value x4 x16).bind fun y25 => bif (!y25) then some false else nx6 ()
def cell_Same_k8 (s : Unit) : Option Bool :=
  some true
def cell_Same (a : List (List Val)) (b : List (List Val)) : Option Bool :=
  bif decide (((a.length : Int) : Int) ≠ (b.length : Int)) then some false else eachI (cell_Same_b7 b) cell_Same_k8 0 a ()
theorem cell_Same_c (w0 : World) (M : BS) (hM : ∀ b, M b → b < w0.heap.size) (va : Value) (a : List (List Val)) (ha : Rd2 (rSl rVal) w0 BE M va a) (vb : Value) (b : List (List Val)) (hb : Rd2 (rSl rVal) w0 BE M vb b) (r : Bool) (hs : cell_Same a b = some r) :
    Calls Tryz.prog 44 #[va, vb] w0 (fun e w' => Grow w0 w' ∧ e = .returned (.bool r)) := by
 refine calls_start (args := [va, vb]) Tryz.func44 rfl Tryz.ntmps44 (Nat.le_of_ble_eq_true rfl) ?_
 have h := SH.init hM
 replace h := h.argSr 1 ha none_own
 replace h := h.argSr 2 hb (hupd_own_sr none_own)
 have hl_a := ha.len_le
 have hl_b := hb.len_le
 refine wc_seq (wc_region (wl_ok (r_assign (v := (.bool (false))) rfl) (wl_nil (then_normal (wc_seq (wc_region (wl_ok (r_move (v := va) rfl) (wl_ok (r_move (v := vb) rfl) (w_callIn (args := [va, vb, (.func (.func 79) #[] #[])]) fnOk78 rfl rfl (calls_start (args := [va, vb, (.func (.func 79) #[] #[])]) Tryz.func78 rfl Tryz.ntmps78 (Nat.le_of_ble_eq_true rfl) (wc_seq (wc_region (wl_ok (r_assign (v := (.bool (false))) rfl) (wl_nil (then_normal (wc_seq (wc_seq (wc_region (wl_ok (r_move (v := va) rfl) (wl_ok (r_len SliceOf24 rfl (h.srS 1 rfl)) (wl_ok (r_move (v := vb) rfl) (wl_ok (r_len SliceOf24 rfl (h.srS 2 rfl)) (wl_ok (r_neq rfl rfl) ?_)))))))))))))))))))))))
 refine wl_nil (then_normal (wc_ifb hs rfl (fun c1 hs => ?_) (fun c1 hs => ?_)))
 ·
  refine wc_seq (wc_region (wl_ok (r_assign (v := (.bool (false))) rfl) (wl_nil (then_normal (wc_ret (then_ret (fin1 (v := (.bool (false))) Tryz.results78 rfl (⟨_, rfl, ?_⟩))))))))
  refine wl_ok (r_assign (v := (.bool (false))) rfl) (wl_nil (then_normal (wc_ret (fin1 (v := (.bool (false))) Tryz.results44 rfl ?_))))
  obtain rfl := Option.some.inj hs
  exact ⟨h.grown, rfl⟩
 ·
  refine wc_skip (then_normal (wc_seq (wc_seq (wc_region (wl_ok (r_move (v := va) rfl) (wl_ok (r_len SliceOf24 rfl (h.srS 1 rfl)) (wl_ok (r_move (v := (.int .i64 (0))) rfl) (wl_nil (then_normal (wc_block (wc_lp (σ := Nat × Int) (inl [6, 7, 8, 9, 17, 18, 19, 20, 21, 22, 23, 24, 25, 26, 27, 28, 29, 30, 31]) (fun ⟨k2, i3⟩ => [(17, (.int .i64 (i3)))]) (fun ⟨k2, i3⟩ w => SH w0 M BE w (hset [(1, .sr (rSl rVal) va a), (2, .sr (rSl rVal) vb b)]) ∧ i3 = (k2 : Int) ∧ eachI (cell_Same_b7 b) cell_Same_k8 i3 (a.drop k2) () = some r) (fun ⟨k2, i3⟩ => a.length - k2) ⟨0, 0⟩ ⟨rfl, trivial⟩ ?_ ?_)))))))))))
  ·
   exact ⟨h.cn _, rfl, hs⟩
  ·
   rintro ⟨k2, i3⟩ w junk ⟨h, hik, hs⟩
   refine wc_seq (wc_region ?_)
   refine wl_ok (r_lss rfl rfl) (wl_nil (then_normal ?_))
   refine wc_seq (wc_if rfl (fun e7 => ?_) (fun e7 => ?_))
   ·
    refine wc_skip (then_normal ?_)
    obtain ⟨x4, e8a, e8b⟩ := drop_lt (hik ▸ e7)
    rw [e8b, eachI_cons] at hs
    generalize hnx6 : eachI (cell_Same_b7 b) cell_Same_k8 (i3 + 1) (a.drop (k2 + 1)) = nx6 at hs
    have e8r := nat_rng ((h.srS 1 rfl)).len_le hik e7
    refine wc_seq (wc_block (wc_seq (wc_region (wl_ok (r_move (v := (.int .i64 (i3))) rfl) ?_))))
    obtain ⟨b10, o11, cs12, h, r13, i9⟩ := h.ixS 1 3 rfl SliceOf24 rfl (nat_nn hik) (get_nat hik e8a)
    obtain ⟨u14, rfl, g15⟩ := r13
    replace h := h.knowRd 4 g15.up
    refine wl_ok (i9 _ _ _ _ _ _ _ _ _ rfl rfl) (wl_ok (r_ldP (k := 0) h 3 rfl One47 rfl rfl) (wl_ok (r_assign (v := (.int .i64 (i3))) rfl) (wl_ok (r_assign (v := u14) rfl) (wl_nil (then_normal (wc_seq (wc_region (wl_ok (r_move (v := vb) rfl) (wl_ok (r_move (v := (.int .i64 (i3))) rfl) ?_)))))))))
    obtain ⟨x16, e17, hs⟩ := o_bind hs
    obtain ⟨b19, o20, cs21, h, r22, i18⟩ := h.ixS 2 5 rfl SliceOf24 rfl (o_idx e17).1 (o_idx e17).2
    obtain ⟨u23, rfl, g24⟩ := r22
    replace h := h.knowRd 6 g24.up
    refine wl_ok (i18 _ _ _ _ _ _ _ _ _ rfl rfl) (wl_ok (r_ldP (k := 0) h 5 rfl One47 rfl rfl) (wl_ok (r_assign (v := u23) rfl) (wl_nil (then_normal (wc_seq (wc_region (wl_ok (r_move (v := (.func (.func 79) #[] #[])) rfl) (wl_ok (r_move (v := u14) rfl) (wl_ok (r_move (v := u23) rfl) (w_callIn (args := [u14, u23]) fnOk79 rfl rfl (calls_start (args := [u14, u23]) Tryz.func79 rfl Tryz.ntmps79 (Nat.le_of_ble_eq_true rfl) (wc_seq (wc_region (wl_ok (r_assign (v := (.bool (false))) rfl) (wl_nil (then_normal (wc_seq (wc_region (wl_ok (r_move (v := u14) rfl) (wl_ok (r_move (v := u23) rfl) ?_))))))))))))))))))))
    obtain ⟨y25, e26, hs⟩ := o_bind hs
    refine w_call fnOk47 rfl rfl (slices_Equal_Value_c _ _ h.lt u14 x4 (h.rdS 4 rfl) u23 x16 (h.rdS 6 rfl) _ e26) ?_
    rintro _ w ⟨k27, rfl⟩
    refine ⟨_, rfl, ?_⟩
    replace h := h.grow k27
    refine wl_ok (r_assign (v := (.bool (y25))) rfl) (wl_nil (then_normal (wc_ret (fin1 (v := (.bool (y25))) Tryz.results79 rfl (⟨_, rfl, ?_⟩)))))
    refine wl_ok (r_notb rfl) (wl_nil (then_normal (wc_ifb hs rfl (fun c28 hs => ?_) (fun c28 hs => ?_))))
    ·
     refine wc_seq (wc_region (wl_ok (r_assign (v := (.bool (false))) rfl) (wl_nil (then_normal (wc_ret (inBlock_ret (then_ret (then_ret (inBlock_ret (then_ret (fin1 (v := (.bool (false))) Tryz.results78 rfl (⟨_, rfl, ?_⟩))))))))))))
     refine wl_ok (r_assign (v := (.bool (false))) rfl) (wl_nil (then_normal (wc_ret (fin1 (v := (.bool (false))) Tryz.results44 rfl ?_))))
     obtain rfl := Option.some.inj hs
     exact ⟨h.grown, rfl⟩
    ·
     refine wc_skip (inBlock_normal (then_normal (wc_region (wl_ok (r_add rfl rfl e8r) (wl_ok (r_move (v := (.int .i64 ((i3 + 1)))) rfl) (wl_nil (then_loop ?_)))))))
     subst hnx6
     exact lend ⟨k2 + 1, i3 + 1⟩ ⟨h.cn _, by omega, hs⟩ (by have := of_decide_eq_true e7; dsimp only; omega)
   ·
    rw [drop_ge (hik ▸ e7), eachI_nil] at hs
    refine wc_exit (then_exit (then_exit (inBlock_eq (then_normal (wc_seq (wc_region (wl_ok (r_assign (v := (.bool (true))) rfl) (wl_nil (then_normal (wc_ret (fin1 (v := (.bool (true))) Tryz.results78 rfl (⟨_, rfl, ?_⟩))))))))))))
    refine wl_ok (r_assign (v := (.bool (true))) rfl) (wl_nil (then_normal (wc_ret (fin1 (v := (.bool (true))) Tryz.results44 rfl ?_))))
    obtain rfl := Option.some.inj hs
    exact ⟨h.grown, rfl⟩
def vm_Same_j22 (nx13 : Unit → Option Bool) (x34 : Bool) : Option Bool :=
  bif x34 then some false else nx13 ()
def vm_Same_b23 (b : LX.State) (i10 : Int) (x11 : LX.Frame) (s : Unit) (nx13 : Unit → Option Bool) : Option Bool :=
  (idx b.frames i10).bind fun x24 => bif ((decide ((x11.proc : Int) = x24.proc) && decide ((x11.at_ : Int) = x24.at_)) && decide ((x11.to_ : Int) = x24.to_)) then (slices_Equal_Value x11.regs x24.regs).bind fun y39 => vm_Same_j22 nx13 (!y39) else vm_Same_j22 nx13 true
def vm_Same_k24 (s : Unit) : Option Bool :=
  some true
def vm_Same (a : LX.State) (b : LX.State) : Option Bool :=
  bif (decide ((a.status : Int) = b.status) && decide ((a.wher : Int) = b.wher)) then (cell_Same a.cells b.cells).bind fun y4 => bif y4 then bif decide (((a.frames.length : Int) : Int) ≠ (b.frames.length : Int)) then some false else eachI (vm_Same_b23 b) vm_Same_k24 0 a.frames () else some false else some false
theorem vm_Same_c (w0 : World) (M : BS) (hM : ∀ b, M b → b < w0.heap.size) (a : LX.State) (va0 va1 : Value) (ha0 : Rd2 rFrame w0 BE M va0 a.frames) (ha1 : Rd2 (rSl rVal) w0 BE M va1 a.cells) (b : LX.State) (vb0 vb1 : Value) (hb0 : Rd2 rFrame w0 BE M vb0 b.frames) (hb1 : Rd2 (rSl rVal) w0 BE M vb1 b.cells) (r : Bool) (hs : vm_Same a b = some r) :
    Calls Tryz.prog 19 #[(.agg #[va0, va1, (.int .i64 (a.status)), (.int .i64 (a.wher))]), (.agg #[vb0, vb1, (.int .i64 (b.status)), (.int .i64 (b.wher))])] w0 (fun e w' => Grow w0 w' ∧ e = .returned (.bool r)) := by
 refine calls_start (args := [(.agg #[va0, va1, (.int .i64 (a.status)), (.int .i64 (a.wher))]), (.agg #[vb0, vb1, (.int .i64 (b.status)), (.int .i64 (b.wher))])]) Tryz.func19 rfl Tryz.ntmps19 (Nat.le_of_ble_eq_true rfl) ?_
 have h := SH.init hM
 replace h := h.argSr 1 ha0 none_own
 replace h := h.argSr 2 ha1 (hupd_own_sr none_own)
 replace h := h.argSr 3 hb0 (hupd_own_sr (hupd_own_sr none_own))
 replace h := h.argSr 4 hb1 (hupd_own_sr (hupd_own_sr (hupd_own_sr none_own)))
 refine wc_seq (wc_region (w_box (cs := [va0, va1, (.int .i64 (a.status)), (.int .i64 (a.wher))]) h 5 rfl rfl fun w b1 h => w_box (cs := [vb0, vb1, (.int .i64 (b.status)), (.int .i64 (b.wher))]) h 6 rfl rfl fun w b2 h => wl_ok (r_assign (v := (.bool (false))) rfl) (wl_nil (then_normal (wc_seq (wc_region (wl_ok (r_fieldAddr Fld26x2 rfl) (wl_ok (r_ldB h 5 rfl One3 rfl rfl) (wl_ok (r_fieldAddr Fld26x2 rfl) (wl_ok (r_ldB h 6 rfl One3 rfl rfl) (wl_ok (r_eql rfl rfl) (wl_ok (r_move (v := (.bool (decide ((a.status : Int) = b.status)))) rfl) (wl_gd0 rfl rfl (fun q => r_fieldAddr Fld26x3 rfl) (wl_gd0 rfl rfl (fun q => r_ldB h 5 rfl One3 (gvt q) rfl) (wl_gd0 rfl rfl (fun q => r_fieldAddr Fld26x3 rfl) (wl_gd0 rfl rfl (fun q => r_ldB h 6 rfl One3 (gvt q) rfl) (wl_gd0 rfl rfl (fun q => r_eql (gvt q) (gvt q)) (wl_ok (r_pand rfl rfl evc) (wl_ok (r_move (v := (.bool ((decide ((a.status : Int) = b.status) && decide ((a.wher : Int) = b.wher))))) rfl) (c_split (b := (decide ((a.status : Int) = b.status) && decide ((a.wher : Int) = b.wher))) hs (fun c3 hs => ?_) (fun c3 hs => ?_)))))))))))))))))))))
 ·
  refine wl_on rfl (congrArg Value.bool c3) (wl_ok (r_fieldAddr Fld26x1 rfl) (wl_on rfl (congrArg Value.bool c3) (wl_ok (r_ldB h 5 rfl One24 rfl rfl) (wl_on rfl (congrArg Value.bool c3) (wl_ok (r_fieldAddr Fld26x1 rfl) (wl_on rfl (congrArg Value.bool c3) (wl_ok (r_ldB h 6 rfl One24 rfl rfl) (wl_on rfl (congrArg Value.bool c3) ?_))))))))
  obtain ⟨y4, e5, hs⟩ := o_bind hs
  refine w_call fnOk44 rfl rfl (cell_Same_c _ _ h.lt va1 a.cells (h.srS 2 rfl) vb1 b.cells (h.srS 4 rfl) _ e5) ?_
  rintro _ w ⟨k6, rfl⟩
  refine ⟨_, rfl, ?_⟩
  replace h := h.grow k6
  refine wl_ok (r_pick (b := true) (v := (.bool (y4))) (congrArg Value.bool c3) rfl) (wl_ok (r_move (v := (.bool (y4))) rfl) (c_split (b := y4) hs (fun c7 hs => ?_) (fun c7 hs => ?_)))
  ·
   refine wl_on rfl (congrArg Value.bool c7) (wl_ok (r_fieldAddr Fld26x0 rfl) (wl_on rfl (congrArg Value.bool c7) (wl_ok (r_ldB h 5 rfl One23 rfl rfl) (wl_on rfl (congrArg Value.bool c7) (wl_ok (r_fieldAddr Fld26x0 rfl) (wl_on rfl (congrArg Value.bool c7) (wl_ok (r_ldB h 6 rfl One23 rfl rfl) (wl_on rfl (congrArg Value.bool c7) (w_callIn (args := [va0, vb0, (.func (.func 46) #[] #[])]) fnOk45 rfl rfl (calls_start (args := [va0, vb0, (.func (.func 46) #[] #[])]) Tryz.func45 rfl Tryz.ntmps45 (Nat.le_of_ble_eq_true rfl) (wc_seq (wc_region (wl_ok (r_assign (v := (.bool (false))) rfl) (wl_nil (then_normal (wc_seq (wc_seq (wc_region (wl_ok (r_move (v := va0) rfl) (wl_ok (r_len SliceOf23 rfl (h.srS 1 rfl)) (wl_ok (r_move (v := vb0) rfl) (wl_ok (r_len SliceOf23 rfl (h.srS 3 rfl)) (wl_ok (r_neq rfl rfl) ?_)))))))))))))))))))))))
   refine wl_nil (then_normal (wc_ifb hs rfl (fun c8 hs => ?_) (fun c8 hs => ?_)))
   ·
    refine wc_seq (wc_region (wl_ok (r_assign (v := (.bool (false))) rfl) (wl_nil (then_normal (wc_ret (then_ret (fin1 (v := (.bool (false))) Tryz.results45 rfl (⟨_, rfl, ?_⟩))))))))
    refine wl_ok (r_pick (b := true) (v := (.bool (false))) (congrArg Value.bool c7) rfl) (wl_ok (r_assign (v := (.bool (false))) rfl) (wl_nil (then_normal (wc_ret (fin1 (v := (.bool (false))) Tryz.results19 rfl ?_)))))
    obtain rfl := Option.some.inj hs
    exact ⟨h.grown, rfl⟩
   ·
    refine wc_skip (then_normal (wc_seq (wc_seq (wc_region (wl_ok (r_move (v := va0) rfl) (wl_ok (r_len SliceOf23 rfl (h.srS 1 rfl)) (wl_ok (r_move (v := (.int .i64 (0))) rfl) (wl_nil (then_normal (wc_block (wc_lp (σ := Nat × Int) (inl [6, 7, 8, 9, 17, 18, 19, 20, 21, 22, 23, 24, 25, 26, 27, 28, 29, 30, 31]) (fun ⟨k9, i10⟩ => [(17, (.int .i64 (i10)))]) (fun ⟨k9, i10⟩ w => SH w0 M BE w (hset [(1, .sr rFrame va0 a.frames), (3, .sr rFrame vb0 b.frames)]) ∧ i10 = (k9 : Int) ∧ eachI (vm_Same_b23 b) vm_Same_k24 i10 (a.frames.drop k9) () = some r) (fun ⟨k9, i10⟩ => a.frames.length - k9) ⟨0, 0⟩ ⟨rfl, trivial⟩ ?_ ?_)))))))))))
    ·
     exact ⟨h.cn _, rfl, hs⟩
    ·
     rintro ⟨k9, i10⟩ w junk ⟨h, hik, hs⟩
     refine wc_seq (wc_region ?_)
     refine wl_ok (r_lss rfl rfl) (wl_nil (then_normal ?_))
     refine wc_seq (wc_if rfl (fun e14 => ?_) (fun e14 => ?_))
     ·
      refine wc_skip (then_normal ?_)
      obtain ⟨x11, e15a, e15b⟩ := drop_lt (hik ▸ e14)
      rw [e15b, eachI_cons] at hs
      generalize hnx13 : eachI (vm_Same_b23 b) vm_Same_k24 (i10 + 1) (a.frames.drop (k9 + 1)) = nx13 at hs
      have e15r := nat_rng ((h.srS 1 rfl)).len_le hik e14
      refine wc_seq (wc_block (wc_seq (wc_region (wl_ok (r_move (v := (.int .i64 (i10))) rfl) ?_))))
      obtain ⟨b17, o18, cs19, h, r20, i16⟩ := h.ixS 1 7 rfl SliceOf23 rfl (nat_nn hik) (get_nat hik e15a)
      obtain ⟨u21, rfl, g22⟩ := rFrame_open r20
      replace h := h.knowRd 8 g22.up
      refine wl_ok (i16 _ _ _ _ _ _ _ _ _ rfl rfl) (wl_ok (r_ldPN (k := 0) (vs := [(.int .i64 (x11.proc)), (.int .i64 (x11.at_)), u21, (.int .i64 (x11.to_))]) h 7 rfl Many49 rfl rfl rfl (Nat.le_of_ble_eq_true rfl)) (w_allocN h 9 Many49 fun w b23 h => wl_ok (r_assign (v := (.int .i64 (i10))) rfl) (w_stN (vs := [(.int .i64 (x11.proc)), (.int .i64 (x11.at_)), u21, (.int .i64 (x11.to_))]) h 9 [(.int .i64 (x11.proc)), (.int .i64 (x11.at_)), u21, (.int .i64 (x11.to_))] rfl Many49 rfl rfl rfl rfl rfl (ones_cons rfl (ones_cons rfl (ones_cons (h.rdAt 8 rfl).one (ones_cons rfl ones_nil)))) fun w h => wl_nil (then_normal (wc_seq (wc_region (wl_ok (r_move (v := vb0) rfl) (wl_ok (r_move (v := (.int .i64 (i10))) rfl) ?_))))))))
      obtain ⟨x24, e25, hs⟩ := o_bind hs
      obtain ⟨b27, o28, cs29, h, r30, i26⟩ := h.ixS 3 10 rfl SliceOf23 rfl (o_idx e25).1 (o_idx e25).2
      obtain ⟨u31, rfl, g32⟩ := rFrame_open r30
      replace h := h.knowRd 11 g32.up
      refine wl_ok (i26 _ _ _ _ _ _ _ _ _ rfl rfl) (wl_ok (r_ldPN (k := 0) (vs := [(.int .i64 (x24.proc)), (.int .i64 (x24.at_)), u31, (.int .i64 (x24.to_))]) h 10 rfl Many49 rfl rfl rfl (Nat.le_of_ble_eq_true rfl)) (w_allocN h 12 Many49 fun w b33 h => w_stN (vs := [(.int .i64 (x24.proc)), (.int .i64 (x24.at_)), u31, (.int .i64 (x24.to_))]) h 12 [(.int .i64 (x24.proc)), (.int .i64 (x24.at_)), u31, (.int .i64 (x24.to_))] rfl Many49 rfl rfl rfl rfl rfl (ones_cons rfl (ones_cons rfl (ones_cons (h.rdAt 11 rfl).one (ones_cons rfl ones_nil)))) fun w h => wl_nil (then_normal (wc_join (σ := Bool) (inl [26, 27, 28, 29, 30]) (fun x34 => [(30, (.bool (x34)))]) (fun x34 w => SH w0 M BE w (hset [(1, .sr rFrame va0 a.frames), (3, .sr rFrame vb0 b.frames)]) ∧ vm_Same_j22 nx13 x34 = some r) ?_ ?_))))
      ·
       rintro x34 w junk ⟨h, hs⟩
       refine wc_ifb hs rfl (fun c35 hs => ?_) (fun c35 hs => ?_)
       ·
        refine wc_seq (wc_region (wl_ok (r_assign (v := (.bool (false))) rfl) (wl_nil (then_normal (wc_ret (inBlock_ret (then_ret (then_ret (inBlock_ret (then_ret (fin1 (v := (.bool (false))) Tryz.results45 rfl (⟨_, rfl, ?_⟩))))))))))))
        refine wl_ok (r_pick (b := true) (v := (.bool (false))) (congrArg Value.bool c7) rfl) (wl_ok (r_assign (v := (.bool (false))) rfl) (wl_nil (then_normal (wc_ret (fin1 (v := (.bool (false))) Tryz.results19 rfl ?_)))))
        obtain rfl := Option.some.inj hs
        exact ⟨h.grown, rfl⟩
       ·
        refine wc_skip (inBlock_normal (then_normal (wc_region (wl_ok (r_add rfl rfl e15r) (wl_ok (r_move (v := (.int .i64 ((i10 + 1)))) rfl) (wl_nil (then_loop ?_)))))))
        subst hnx13
        exact lend ⟨k9 + 1, i10 + 1⟩ ⟨h.cn _, by omega, hs⟩ (by have := of_decide_eq_true e14; dsimp only; omega)
      ·
       refine wc_region (wl_ok (r_move (v := (.func (.func 46) #[] #[])) rfl) (wl_ok (r_ldBN (vs := [(.int .i64 (x11.proc)), (.int .i64 (x11.at_)), u21, (.int .i64 (x11.to_))]) h 9 rfl Many49 rfl rfl rfl) (wl_ok (r_ldBN (vs := [(.int .i64 (x24.proc)), (.int .i64 (x24.at_)), u31, (.int .i64 (x24.to_))]) h 12 rfl Many49 rfl rfl rfl) (w_callIn (args := [(.agg #[(.int .i64 (x11.proc)), (.int .i64 (x11.at_)), u21, (.int .i64 (x11.to_))]), (.agg #[(.int .i64 (x24.proc)), (.int .i64 (x24.at_)), u31, (.int .i64 (x24.to_))])]) fnOk46 rfl rfl (calls_start (args := [(.agg #[(.int .i64 (x11.proc)), (.int .i64 (x11.at_)), u21, (.int .i64 (x11.to_))]), (.agg #[(.int .i64 (x24.proc)), (.int .i64 (x24.at_)), u31, (.int .i64 (x24.to_))])]) Tryz.func46 rfl Tryz.ntmps46 (Nat.le_of_ble_eq_true rfl) (wc_seq (wc_region (w_box (cs := [(.int .i64 (x11.proc)), (.int .i64 (x11.at_)), u21, (.int .i64 (x11.to_))]) h 13 rfl rfl fun w b36 h => w_box (cs := [(.int .i64 (x24.proc)), (.int .i64 (x24.at_)), u31, (.int .i64 (x24.to_))]) h 14 rfl rfl fun w b37 h => wl_ok (r_assign (v := (.bool (false))) rfl) (wl_nil (then_normal (wc_seq (wc_region (wl_ok (r_fieldAddr Fld49x0 rfl) (wl_ok (r_ldB h 13 rfl One3 rfl rfl) (wl_ok (r_fieldAddr Fld49x0 rfl) (wl_ok (r_ldB h 14 rfl One3 rfl rfl) (wl_ok (r_eql rfl rfl) (wl_ok (r_move (v := (.bool (decide ((x11.proc : Int) = x24.proc)))) rfl) (wl_gd0 rfl rfl (fun q => r_fieldAddr Fld49x1 rfl) (wl_gd0 rfl rfl (fun q => r_ldB h 13 rfl One3 (gvt q) rfl) (wl_gd0 rfl rfl (fun q => r_fieldAddr Fld49x1 rfl) ?_)))))))))))))))))))))
       refine wl_gd0 rfl rfl (fun q => r_ldB h 14 rfl One3 (gvt q) rfl) (wl_gd0 rfl rfl (fun q => r_eql (gvt q) (gvt q)) (wl_ok (r_pand rfl rfl evc) (wl_ok (r_move (v := (.bool ((decide ((x11.proc : Int) = x24.proc) && decide ((x11.at_ : Int) = x24.at_))))) rfl) (wl_gd0 rfl rfl (fun q => r_fieldAddr Fld49x3 rfl) (wl_gd0 rfl rfl (fun q => r_ldB h 13 rfl One3 (gvt q) rfl) (wl_gd0 rfl rfl (fun q => r_fieldAddr Fld49x3 rfl) (wl_gd0 rfl rfl (fun q => r_ldB h 14 rfl One3 (gvt q) rfl) (wl_gd0 rfl rfl (fun q => r_eql (gvt q) (gvt q)) (wl_ok (r_pand rfl rfl evc) (wl_ok (r_move (v := (.bool (((decide ((x11.proc : Int) = x24.proc) && decide ((x11.at_ : Int) = x24.at_)) && decide ((x11.to_ : Int) = x24.to_))))) rfl) (c_split (b := ((decide ((x11.proc : Int) = x24.proc) && decide ((x11.at_ : Int) = x24.at_)) && decide ((x11.to_ : Int) = x24.to_))) hs (fun c38 hs => ?_) (fun c38 hs => ?_))))))))))))
       ·
        refine wl_on rfl (congrArg Value.bool c38) (wl_ok (r_fieldAddr Fld49x2 rfl) (wl_on rfl (congrArg Value.bool c38) (wl_ok (r_ldB h 13 rfl One47 rfl rfl) (wl_on rfl (congrArg Value.bool c38) (wl_ok (r_fieldAddr Fld49x2 rfl) (wl_on rfl (congrArg Value.bool c38) (wl_ok (r_ldB h 14 rfl One47 rfl rfl) (wl_on rfl (congrArg Value.bool c38) ?_))))))))
        obtain ⟨y39, e40, hs⟩ := o_bind hs
        refine w_call fnOk47 rfl rfl (slices_Equal_Value_c _ _ h.lt u21 x11.regs (h.rdS 8 rfl) u31 x24.regs (h.rdS 11 rfl) _ e40) ?_
        rintro _ w ⟨k41, rfl⟩
        refine ⟨_, rfl, ?_⟩
        replace h := h.grow k41
        refine wl_ok (r_pick (b := true) (v := (.bool (y39))) (congrArg Value.bool c38) rfl) (wl_ok (r_assign (v := (.bool (y39))) rfl) (wl_nil (then_normal (wc_ret (fin1 (v := (.bool (y39))) Tryz.results46 rfl (⟨_, rfl, ?_⟩))))))
        refine wl_ok (r_notb rfl) (wl_nil (then_loop ?_))
        exact jend (!y39) ⟨h.cn _, hs⟩
       ·
        refine wl_off (b' := false) rfl (congrArg Value.bool c38) rfl (wl_off (b' := false) rfl (congrArg Value.bool c38) rfl (wl_off (b' := false) rfl (congrArg Value.bool c38) rfl (wl_off (b' := false) rfl (congrArg Value.bool c38) rfl (wl_off (b' := false) rfl (congrArg Value.bool c38) rfl (wl_ok (r_pick (b := false) (v := (.bool (false))) (congrArg Value.bool c38) rfl) (wl_ok (r_assign (v := (.bool (false))) rfl) (wl_nil (then_normal (wc_ret (fin1 (v := (.bool (false))) Tryz.results46 rfl (⟨_, rfl, ?_⟩)))))))))))
        refine wl_ok (r_notb rfl) (wl_nil (then_loop ?_))
        exact jend true ⟨h.cn _, hs⟩
     ·
      rw [drop_ge (hik ▸ e14), eachI_nil] at hs
      refine wc_exit (then_exit (then_exit (inBlock_eq (then_normal (wc_seq (wc_region (wl_ok (r_assign (v := (.bool (true))) rfl) (wl_nil (then_normal (wc_ret (fin1 (v := (.bool (true))) Tryz.results45 rfl (⟨_, rfl, ?_⟩))))))))))))
      refine wl_ok (r_pick (b := true) (v := (.bool (true))) (congrArg Value.bool c7) rfl) (wl_ok (r_assign (v := (.bool (true))) rfl) (wl_nil (then_normal (wc_ret (fin1 (v := (.bool (true))) Tryz.results19 rfl ?_)))))
      obtain rfl := Option.some.inj hs
      exact ⟨h.grown, rfl⟩
  ·
   refine wl_off (b' := false) rfl (congrArg Value.bool c7) rfl (wl_off (b' := false) rfl (congrArg Value.bool c7) rfl (wl_off (b' := false) rfl (congrArg Value.bool c7) rfl (wl_off (b' := false) rfl (congrArg Value.bool c7) rfl (wl_off (b' := false) rfl (congrArg Value.bool c7) rfl (wl_ok (r_pick (b := false) (v := (.bool (false))) (congrArg Value.bool c7) rfl) (wl_ok (r_assign (v := (.bool (false))) rfl) (wl_nil (then_normal (wc_ret (fin1 (v := (.bool (false))) Tryz.results19 rfl ?_))))))))))
   obtain rfl := Option.some.inj hs
   exact ⟨h.grown, rfl⟩
 ·
  refine wl_off (b' := false) rfl (congrArg Value.bool c3) rfl (wl_off (b' := false) rfl (congrArg Value.bool c3) rfl (wl_off (b' := false) rfl (congrArg Value.bool c3) rfl (wl_off (b' := false) rfl (congrArg Value.bool c3) rfl (wl_off (b' := false) rfl (congrArg Value.bool c3) rfl (wl_ok (r_pick (b := false) (v := (.bool (false))) (congrArg Value.bool c3) rfl) (wl_ok (r_move (v := (.bool (false))) rfl) (wl_off (b' := false) rfl rfl rfl (wl_off (b' := false) rfl rfl rfl (wl_off (b' := false) rfl rfl rfl (wl_off (b' := false) rfl rfl rfl (wl_off (b' := false) rfl rfl rfl (wl_ok (r_pick (b := false) (v := (.bool (false))) rfl rfl) (wl_ok (r_assign (v := (.bool (false))) rfl) (wl_nil (then_normal (wc_ret (fin1 (v := (.bool (false))) Tryz.results19 rfl ?_)))))))))))))))))
  obtain rfl := Option.some.inj hs
  exact ⟨h.grown, rfl⟩
def wandererlaw_VmKeeps_j2 (N : Nat) (y2 : LX.State × List Int × Int × Int) (a : List Proc) (c : Int) (x20 : Bool) : Option Bool :=
  bif x20 then some false else bif decide ((y2.1.status : Int) ≠ 0) then (vm_Run N a y2.1 c).bind fun y23 => some (decide ((y23.2.2.2 : Int) = 7)) else some true
def wandererlaw_VmKeeps (N : Nat) (a : List Proc) (b : LX.State) (c : Int) : Option Bool :=
  (vm_Run N a b c).bind fun y2 => (wandererlaw_ran N).bind fun y13 => bif ((!y13) || decide ((y2.2.2.2 : Int) ≠ 0)) then (wandererlaw_ran N).bind fun y17 => some y17 else (vm_Check a y2.1).bind fun y34 => bif ((((decide ((y34 : Int) ≠ 0) || decide ((y2.2.2.1 : Int) < 0)) || decide ((c : Int) < y2.2.2.1)) || decide ((y2.2.2.1 : Int) < (y2.2.1.length : Int))) || decide ((40 : Int) < (y2.2.1.length : Int))) then wandererlaw_VmKeeps_j2 N y2 a c true else bif decide ((y2.2.2.1 : Int) = 0) then (vm_Same y2.1 b).bind fun y39 => wandererlaw_VmKeeps_j2 N y2 a c (!y39) else wandererlaw_VmKeeps_j2 N y2 a c false
theorem wandererlaw_VmKeeps_c (N : Nat) (w0 : World) (M : BS) (hM : ∀ b, M b → b < w0.heap.size) (hT : Tabs Tryz.prog 4 w0) (va : Value) (a : List Proc) (ha : RdSl rProc w0 M va a) (b : LX.State) (vb0 vb1 : Value) (hb0 : Rd2 rFrame w0 BE M vb0 b.frames) (hb1 : Rd2 (rSl rVal) w0 BE M vb1 b.cells) (c : Int) (r : Bool) (hs : wandererlaw_VmKeeps N a b c = some r) :
    Calls Tryz.prog 6 #[va, (.agg #[vb0, vb1, (.int .i64 (b.status)), (.int .i64 (b.wher))]), (.int .i64 (c))] w0 (fun e w' => Grow w0 w' ∧ e = .returned (.bool r)) := by
 refine calls_start (args := [va, (.agg #[vb0, vb1, (.int .i64 (b.status)), (.int .i64 (b.wher))]), (.int .i64 (c))]) Tryz.func6 rfl Tryz.ntmps6 (Nat.le_of_ble_eq_true rfl) ?_
 have h := SH.init hM
 replace h := h.argRd 1 ha none_own
 replace h := h.argSr 2 hb0 (hupd_own_rd none_own)
 replace h := h.argSr 3 hb1 (hupd_own_sr (hupd_own_rd none_own))
 have hl_a := ha.len_le
 refine wc_seq (wc_region (w_box (cs := [vb0, vb1, (.int .i64 (b.status)), (.int .i64 (b.wher))]) h 4 rfl rfl fun w b1 h => wl_ok (r_assign (v := (.bool (false))) rfl) (wl_nil (then_normal (wc_seq (wc_region (wl_ok (r_move (v := va) rfl) (wl_ok (r_ldBN (vs := [vb0, vb1, (.int .i64 (b.status)), (.int .i64 (b.wher))]) h 4 rfl Many26 rfl rfl rfl) (wl_ok (r_move (v := (.int .i64 (c))) rfl) ?_)))))))))
 obtain ⟨y2, e3, hs⟩ := o_bind hs
 refine w_call fnOk28 rfl rfl (vm_Run_c N _ _ h.lt va a (h.rdAt 1 rfl) b vb0 vb1 (h.srS 2 rfl) (h.srS 3 rfl) c _ e3) ?_
 rintro _ w ⟨k11, u4, u6, u8, rfl, g5, g7, g9, g10⟩
 refine ⟨_, rfl, ?_⟩
 replace h := h.gotOwn 7 k11 g9 g10
 replace h := h.knowRd 5 g5.upO
 replace h := h.knowRd 6 g7.upO.up
 refine wl_ok (r_move (v := (.tuple #[(.agg #[u4, u6, (.int .i64 (y2.1.status)), (.int .i64 (y2.1.wher))]), u8, (.int .i64 (y2.2.2.1)), (.int .i64 (y2.2.2.2))])) rfl) (wl_ok (r_extract rfl rfl) (wl_ok (r_extract rfl rfl) (wl_ok (r_extract rfl rfl) (wl_ok (r_extract rfl rfl) (w_allocN h 8 Many26 fun w b12 h => w_stN (vs := [u4, u6, (.int .i64 (y2.1.status)), (.int .i64 (y2.1.wher))]) h 8 [u4, u6, (.int .i64 (y2.1.status)), (.int .i64 (y2.1.wher))] rfl Many26 rfl rfl rfl rfl rfl (ones_cons (h.rdAt 5 rfl).one (ones_cons (h.rdAt 6 rfl).one (ones_cons rfl (ones_cons rfl ones_nil)))) fun w h => wl_ok (r_assign (v := u8) rfl) (wl_ok (r_assign (v := (.int .i64 (y2.2.2.1))) rfl) (wl_ok (r_assign (v := (.int .i64 (y2.2.2.2))) rfl) (wl_nil (then_normal (wc_seq (wc_seq (wc_region ?_))))))))))))
 obtain ⟨y13, e14, hs⟩ := o_bind hs
 refine w_call fnOk26 rfl rfl (wandererlaw_ran_c N _ _ h.lt (hT.go h.keep)  _ e14) ?_
 rintro _ w ⟨k15, rfl⟩
 refine ⟨_, rfl, ?_⟩
 replace h := h.grow k15
 refine wl_ok (r_notb rfl) (wl_ok (r_move (v := (.bool ((!y13)))) rfl) (wl_gd0 rfl rfl (fun q => r_move (v := (.int .i64 (y2.2.2.2))) rfl) (wl_gd0 rfl rfl (fun q => r_neq (gvt q) rfl) (wl_ok (r_por rfl rfl evc) (wl_nil (then_normal (wc_ifb hs rfl (fun c16 hs => ?_) (fun c16 hs => ?_))))))))
 ·
  refine wc_seq (wc_region ?_)
  obtain ⟨y17, e18, hs⟩ := o_bind hs
  refine w_call fnOk26 rfl rfl (wandererlaw_ran_c N _ _ h.lt (hT.go h.keep)  _ e18) ?_
  rintro _ w ⟨k19, rfl⟩
  refine ⟨_, rfl, ?_⟩
  replace h := h.grow k19
  refine wl_ok (r_assign (v := (.bool (y17))) rfl) (wl_nil (then_normal (wc_ret (then_ret (fin1 (v := (.bool (y17))) Tryz.results6 rfl ?_)))))
  obtain rfl := Option.some.inj hs
  exact ⟨h.grown, rfl⟩
 ·
  refine wc_skip (then_normal (wc_seq (wc_join (σ := Bool) (inl [31, 32, 33, 34, 35, 36, 37, 38, 39, 40, 41, 42, 43, 44, 45, 46, 47, 48, 49, 50, 51, 52, 53, 54, 55, 56, 57, 58, 59, 60, 61, 62, 63, 64]) (fun x20 => [(64, (.bool (x20)))]) (fun x20 w => SH w0 M BE w (hset [(1, .rd rProc va a), (5, .rd rFrame u4 y2.1.frames), (6, .rd (rSl rVal) u6 y2.1.cells), (8, .blk b12 [u4, u6, (.int .i64 (y2.1.status)), (.int .i64 (y2.1.wher))])]) ∧ wandererlaw_VmKeeps_j2 N y2 a c x20 = some r) ?_ ?_)))
  ·
   rintro x20 w junk ⟨h, hs⟩
   refine wc_ifb hs rfl (fun c21 hs => ?_) (fun c21 hs => ?_)
   ·
    refine wc_seq (wc_region (wl_ok (r_assign (v := (.bool (false))) rfl) (wl_nil (then_normal (wc_ret (then_ret (fin1 (v := (.bool (false))) Tryz.results6 rfl ?_)))))))
    obtain rfl := Option.some.inj hs
    exact ⟨h.grown, rfl⟩
   ·
    refine wc_skip (then_normal (wc_seq (wc_seq (wc_region (wl_ok (r_fieldAddr Fld26x2 rfl) (wl_ok (r_ldB h 8 rfl One3 rfl rfl) (wl_ok (r_neq rfl rfl) (wl_nil (then_normal (wc_ifb hs rfl (fun c22 hs => ?_) (fun c22 hs => ?_)))))))))))
    ·
     refine wc_seq (wc_region (wl_ok (r_move (v := va) rfl) (wl_ok (r_ldBN (vs := [u4, u6, (.int .i64 (y2.1.status)), (.int .i64 (y2.1.wher))]) h 8 rfl Many26 rfl rfl rfl) (wl_ok (r_move (v := (.int .i64 (c))) rfl) ?_))))
     obtain ⟨y23, e24, hs⟩ := o_bind hs
     refine w_call fnOk28 rfl rfl (vm_Run_c N _ _ h.lt va a (h.rdAt 1 rfl) y2.1 u4 u6 (h.rdS 5 rfl) (h.rdS 6 rfl) c _ e24) ?_
     rintro _ w ⟨k32, u25, u27, u29, rfl, g26, g28, g30, g31⟩
     refine ⟨_, rfl, ?_⟩
     replace h := h.gotOwn 11 k32 g30 g31
     replace h := h.knowRd 9 g26.upO
     replace h := h.knowRd 10 g28.upO.up
     refine wl_ok (r_move (v := (.tuple #[(.agg #[u25, u27, (.int .i64 (y23.1.status)), (.int .i64 (y23.1.wher))]), u29, (.int .i64 (y23.2.2.1)), (.int .i64 (y23.2.2.2))])) rfl) (wl_ok (r_extract rfl rfl) (wl_ok (r_extract rfl rfl) (wl_ok (r_extract rfl rfl) (wl_ok (r_extract rfl rfl) (w_allocN h 12 Many26 fun w b33 h => w_stN (vs := [u25, u27, (.int .i64 (y23.1.status)), (.int .i64 (y23.1.wher))]) h 12 [u25, u27, (.int .i64 (y23.1.status)), (.int .i64 (y23.1.wher))] rfl Many26 rfl rfl rfl rfl rfl (ones_cons (h.rdAt 9 rfl).one (ones_cons (h.rdAt 10 rfl).one (ones_cons rfl (ones_cons rfl ones_nil)))) fun w h => wl_ok (r_assign (v := u29) rfl) (wl_ok (r_assign (v := (.int .i64 (y23.2.2.1))) rfl) (wl_ok (r_assign (v := (.int .i64 (y23.2.2.2))) rfl) (wl_nil (then_normal (wc_seq (wc_region (wl_ok (r_move (v := (.int .i64 (y23.2.2.2))) rfl) (wl_ok (r_eql rfl rfl) (wl_ok (r_assign (v := (.bool (decide ((y23.2.2.2 : Int) = 7)))) rfl) (wl_nil (then_normal (wc_ret (then_ret (fin1 (v := (.bool (decide ((y23.2.2.2 : Int) = 7)))) Tryz.results6 rfl ?_)))))))))))))))))))
     obtain rfl := Option.some.inj hs
     exact ⟨h.grown, rfl⟩
    ·
     refine wc_skip (then_normal (wc_seq (wc_region (wl_ok (r_assign (v := (.bool (true))) rfl) (wl_nil (then_normal (wc_ret (fin1 (v := (.bool (true))) Tryz.results6 rfl ?_))))))))
     obtain rfl := Option.some.inj hs
     exact ⟨h.grown, rfl⟩
  ·
   refine wc_region (wl_ok (r_move (v := va) rfl) (wl_ok (r_ldBN (vs := [u4, u6, (.int .i64 (y2.1.status)), (.int .i64 (y2.1.wher))]) h 8 rfl Many26 rfl rfl rfl) ?_))
   obtain ⟨y34, e35, hs⟩ := o_bind hs
   refine w_call fnOk27 rfl rfl (vm_Check_c _ _ h.lt va a (h.rdS 1 rfl) y2.1 u4 u6 (h.rdS 5 rfl) (h.rdS 6 rfl) _ e35) ?_
   rintro _ w ⟨k36, rfl⟩
   refine ⟨_, rfl, ?_⟩
   replace h := h.grow k36
   refine wl_ok (r_neq rfl rfl) (wl_ok (r_move (v := (.bool (decide ((y34 : Int) ≠ 0)))) rfl) (wl_gd0 rfl rfl (fun q => r_move (v := (.int .i64 (y2.2.2.1))) rfl) (wl_gd0 rfl rfl (fun q => r_lss (gvt q) rfl) (wl_ok (r_por rfl rfl evc) (wl_ok (r_move (v := (.bool ((decide ((y34 : Int) ≠ 0) || decide ((y2.2.2.1 : Int) < 0))))) rfl) (wl_gd0 rfl rfl (fun q => r_move (v := (.int .i64 (y2.2.2.1))) rfl) (wl_gd0 rfl rfl (fun q => r_move (v := (.int .i64 (c))) rfl) (wl_gd0 rfl rfl (fun q => r_gtr (gvt q) (gvt q)) (wl_ok (r_por rfl rfl evc) (wl_ok (r_move (v := (.bool (((decide ((y34 : Int) ≠ 0) || decide ((y2.2.2.1 : Int) < 0)) || decide ((c : Int) < y2.2.2.1))))) rfl) (wl_gd0 rfl rfl (fun q => r_move (v := u8) rfl) (wl_gd0 rfl rfl (fun q => r_len SliceOf27 (gvt q) (h.ownS 7 rfl)) (wl_gd0 rfl rfl (fun q => r_move (v := (.int .i64 (y2.2.2.1))) rfl) (wl_gd0 rfl rfl (fun q => r_gtr (gvt q) (gvt q)) (wl_ok (r_por rfl rfl evc) (wl_ok (r_move (v := (.bool ((((decide ((y34 : Int) ≠ 0) || decide ((y2.2.2.1 : Int) < 0)) || decide ((c : Int) < y2.2.2.1)) || decide ((y2.2.2.1 : Int) < (y2.2.1.length : Int)))))) rfl) (wl_gd0 rfl rfl (fun q => r_move (v := u8) rfl) (wl_gd0 rfl rfl (fun q => r_len SliceOf27 (gvt q) (h.ownS 7 rfl)) (wl_gd0 rfl rfl (fun q => r_gtr (gvt q) rfl) (wl_ok (r_por rfl rfl evc) (wl_ok (r_move (v := (.bool (((((decide ((y34 : Int) ≠ 0) || decide ((y2.2.2.1 : Int) < 0)) || decide ((c : Int) < y2.2.2.1)) || decide ((y2.2.2.1 : Int) < (y2.2.1.length : Int))) || decide ((40 : Int) < (y2.2.1.length : Int)))))) rfl) (c_split (b := ((((decide ((y34 : Int) ≠ 0) || decide ((y2.2.2.1 : Int) < 0)) || decide ((c : Int) < y2.2.2.1)) || decide ((y2.2.2.1 : Int) < (y2.2.1.length : Int))) || decide ((40 : Int) < (y2.2.1.length : Int)))) hs (fun c37 hs => ?_) (fun c37 hs => ?_)))))))))))))))))))))))
   ·
    refine wl_off (b' := true) rfl (congrArg Value.bool c37) rfl (wl_off (b' := true) rfl (congrArg Value.bool c37) rfl (wl_off (b' := true) rfl (congrArg Value.bool c37) rfl (wl_offU rfl rfl (wl_offU rfl rfl (wl_offU rfl rfl (wl_offU rfl rfl (wl_off (b' := true) rfl (congrArg Value.bool c37) rfl (wl_ok (r_pick (b := true) (v := (.bool (true))) (congrArg Value.bool c37) rfl) (wl_nil (then_loop ?_))))))))))
    exact jend true ⟨h.cn _, hs⟩
   ·
    refine wl_on rfl (congrArg Value.bool c37) (wl_ok (r_move (v := (.int .i64 (y2.2.2.1))) rfl) (wl_on rfl (congrArg Value.bool c37) (wl_ok (r_eql rfl rfl) (wl_on rfl (congrArg Value.bool c37) (wl_ok (r_move (v := (.bool (decide ((y2.2.2.1 : Int) = 0)))) rfl) (c_split (b := decide ((y2.2.2.1 : Int) = 0)) hs (fun c38 hs => ?_) (fun c38 hs => ?_)))))))
    ·
     refine wl_on rfl (congrArg Value.bool c38) (wl_ok (r_ldBN (vs := [u4, u6, (.int .i64 (y2.1.status)), (.int .i64 (y2.1.wher))]) h 8 rfl Many26 rfl rfl rfl) (wl_on rfl (congrArg Value.bool c38) (wl_ok (r_ldBN (vs := [vb0, vb1, (.int .i64 (b.status)), (.int .i64 (b.wher))]) h 4 rfl Many26 rfl rfl rfl) (wl_on rfl (congrArg Value.bool c38) ?_))))
     obtain ⟨y39, e40, hs⟩ := o_bind hs
     refine w_call fnOk19 rfl rfl (vm_Same_c _ _ h.lt y2.1 u4 u6 (h.rdS 5 rfl) (h.rdS 6 rfl) b vb0 vb1 (h.srS 2 rfl) (h.srS 3 rfl) _ e40) ?_
     rintro _ w ⟨k41, rfl⟩
     refine ⟨_, rfl, ?_⟩
     replace h := h.grow k41
     refine wl_on rfl (congrArg Value.bool c38) (wl_ok (r_notb rfl) (wl_on rfl (congrArg Value.bool c37) (wl_ok (r_pick (b := true) (v := (.bool ((!y39)))) (congrArg Value.bool c38) rfl) (wl_ok (r_pick (b := false) (v := (.bool ((!y39)))) (congrArg Value.bool c37) rfl) (wl_nil (then_loop ?_))))))
     exact jend (!y39) ⟨h.cn _, hs⟩
    ·
     refine wl_off (b' := false) rfl (congrArg Value.bool c38) rfl (wl_off (b' := false) rfl (congrArg Value.bool c38) rfl (wl_off (b' := false) rfl (congrArg Value.bool c38) rfl (wl_off (b' := false) rfl (congrArg Value.bool c38) rfl (wl_on rfl (congrArg Value.bool c37) (wl_ok (r_pick (b := false) (v := (.bool (false))) (congrArg Value.bool c38) rfl) (wl_ok (r_pick (b := false) (v := (.bool (false))) (congrArg Value.bool c37) rfl) (wl_nil (then_loop ?_))))))))
     exact jend false ⟨h.cn _, hs⟩
end
end Go.Proofs.YtfclkapelkhlpaaGreatDoor
namespace Go.Proofs.YtfclkapelkhlpaaGreatDoor
open Go Go.Proofs Go.LX
noncomputable section
def wandererref_CheckValue_j2 (a : Val) (b : Int) (x2 : Bool) : Int :=
  bif x2 then 4 else bif (decide ((a.kind : Int) = 1) && (!(wandererref_fits a.n))) then 3 else bif (decide ((a.kind : Int) = 2) && (!(wandererref_below a.n b))) then 5 else 0
def wandererref_CheckValue (a : Val) (b : Int) : Int :=
  bif (!(wandererref_in a.kind 0 2)) then wandererref_CheckValue_j2 a b (!(wandererref_in a.kind 0 2)) else wandererref_CheckValue_j2 a b (decide ((a.kind : Int) = 0) && decide ((a.n : Int) ≠ 0))
def wandererref_CheckCells_b17 (a : List (List Val)) (x20 : Val) (s : Unit) (nx22 : Unit → Int) : Int :=
  bif decide (((wandererref_CheckValue x20 (a.length : Int)) : Int) ≠ 0) then (wandererref_CheckValue x20 (a.length : Int)) else nx22 ()
def wandererref_CheckCells_k18 (nx6 : Unit → Int) (s : Unit) : Int :=
  nx6 ()
def wandererref_CheckCells_b19 (a : List (List Val)) (x4 : List Val) (s : Unit) (nx6 : Unit → Int) : Int :=
  bif (!(wandererref_in (x4.length : Int) 1 4)) then 2 else each (wandererref_CheckCells_b17 a) (wandererref_CheckCells_k18 nx6) x4 ()
def wandererref_CheckCells_k20 (s : Unit) : Int :=
  0
def wandererref_CheckCells (a : List (List Val)) : Int :=
  bif decide ((24 : Int) < (a.length : Int)) then 2 else each (wandererref_CheckCells_b19 a) wandererref_CheckCells_k20 a ()
def wandererref_CheckState_b49 (b : LX.State) (x44 : Val) (s : Unit) (nx46 : Unit → Option Int) : Option Int :=
  bif decide (((wandererref_CheckValue x44 (b.cells.length : Int)) : Int) ≠ 0) then some (wandererref_CheckValue x44 (b.cells.length : Int)) else nx46 ()
def wandererref_CheckState_k50 (nx17 : Int → Option Int) (x15 : LX.Frame) (s : Unit) : Option Int :=
  nx17 (x15.regs.length : Int)
def wandererref_CheckState_j48 (a : List Proc) (x15 : LX.Frame) (b : LX.State) (nx17 : Int → Option Int) (x30 : Bool) : Option Int :=
  bif x30 then some 3 else (idx a x15.proc).bind fun x32 => bif decide (((x15.regs.length : Int) : Int) ≠ x32.regs) then some 4 else each (wandererref_CheckState_b49 b) (wandererref_CheckState_k50 nx17 x15) x15.regs ()
def wandererref_CheckState_b51 (a : List Proc) (b : LX.State) (x15 : LX.Frame) (x12 : Int) (nx17 : Int → Option Int) : Option Int :=
  bif (!(wandererref_below x15.proc (a.length : Int))) then some 5 else (idx a x15.proc).bind fun xq57x5_1 => bif (!(wandererref_below x15.at_ (xq57x5_1.code.length : Int))) then wandererref_CheckState_j48 a x15 b nx17 true else wandererref_CheckState_j48 a x15 b nx17 (!(wandererref_below x15.to_ x12))
def wandererref_CheckState_k52 (x12 : Int) : Option Int :=
  some 0
def wandererref_CheckState (a : List Proc) (b : LX.State) : Option Int :=
  bif ((!(wandererref_in b.status 0 3)) || (!(wandererref_fits b.wher))) then some 3 else bif (((decide ((b.wher : Int) ≠ 0) && decide ((b.status : Int) ≠ 3)) || (decide ((b.status : Int) = 1) && decide ((0 : Int) < (b.frames.length : Int)))) || (decide ((b.status : Int) ≠ 1) && decide (((b.frames.length : Int) : Int) = 0))) then some 4 else bif decide ((10 : Int) < (b.frames.length : Int)) then some 2 else bif decide (((wandererref_CheckCells b.cells) : Int) ≠ 0) then some (wandererref_CheckCells b.cells) else each (wandererref_CheckState_b51 a b) wandererref_CheckState_k52 b.frames 1
end
end Go.Proofs.YtfclkapelkhlpaaGreatDoor
namespace Go.Proofs.YtfclkapelkhlpaaGreatDoor
open Go Go.Proofs Go.LX
noncomputable section
abbrev preL : List (Int × Str) := [(2, [118]), (4, [46]), (5, [110, 101, 119]), (6, [102]), (1, [])]
theorem bnd {α β : Type} (a : α) (f : α → Option β) : (some a).bind f = f a := rfl
theorem find_uniq {α σ : Type} {g : α → Option σ} {l : List α} (hu : ∀ p ∈ l, ∀ q ∈ l, g p ≠ none → g q ≠ none → p = q) {p : α} (hp : p ∈ l) {t : σ} (h : g p = some t) : l.findSome? g = some t := by
  cases e : l.findSome? g with
  | none =>
    rw [List.findSome?_eq_none_iff] at e
    rw [e p hp] at h; cases h
  | some u =>
    obtain ⟨q, hq, hqu⟩ := List.exists_of_findSome?_eq_some e
    have := hu p hp q hq (by rw [h]; simp) (by rw [hqu]; simp)
    subst this
    rw [h] at hqu; exact hqu.symm
theorem fold_none {α σ : Type} {step : α → σ → Option σ} {g : α → Option σ} : ∀ {l : List α}, (∀ p ∈ l, ∀ s, step p s = some ((g p).getD s)) → (∀ p ∈ l, g p = none) → ∀ s, foldO step l s = some s
  | [], _, _, s => rfl
  | p :: l, h, hn, s => by
    unfold foldO
    rw [h p (by simp), hn p (by simp), Option.getD_none, bnd]
    exact fold_none (fun q hq => h q (List.mem_cons_of_mem _ hq)) (fun q hq => hn q (List.mem_cons_of_mem _ hq)) s
theorem fold_find {α σ : Type} {step : α → σ → Option σ} {g : α → Option σ} : ∀ {l : List α}, (∀ p ∈ l, ∀ s, step p s = some ((g p).getD s)) → (∀ p ∈ l, ∀ q ∈ l, g p ≠ none → g q ≠ none → p = q) → l.Nodup → ∀ s, foldO step l s = some ((l.findSome? g).getD s)
  | [], _, _, _, s => rfl
  | p :: l, h, hu, hn, s => by
    unfold foldO
    rw [h p (by simp), bnd]
    have hn' := List.nodup_cons.1 hn
    cases e : g p with
    | none =>
      rw [Option.getD_none, fold_find (fun q hq => h q (List.mem_cons_of_mem _ hq)) (fun a ha b hb => hu a (List.mem_cons_of_mem _ ha) b (List.mem_cons_of_mem _ hb)) hn'.2 s, List.findSome?_cons, e]
    | some t =>
      rw [Option.getD_some, fold_none (fun q hq => h q (List.mem_cons_of_mem _ hq)) (fun q hq => ?_) t, List.findSome?_cons, e]
      · rfl
      · cases e2 : g q with
        | none => rfl
        | some u =>
          have := hu p (by simp) q (List.mem_cons_of_mem _ hq) (by rw [e]; simp) (by rw [e2]; simp)
          subst this
          exact absurd hq hn'.1
theorem folds_one {α σ : Type} {step : α → σ → Option σ} {g : α → Option σ} {L : List α} (h : ∀ p ∈ L, ∀ s, step p s = some ((g p).getD s)) (hu : ∀ p ∈ L, ∀ q ∈ L, g p ≠ none → g q ≠ none → p = q) (hn : L.Nodup) (s : σ) : FoldsTo step L s ((L.findSome? g).getD s) := by
  intro l hl
  rw [fold_find (fun p hp => h p (hl.mem_iff.1 hp)) (fun p hp q hq => hu p (hl.mem_iff.1 hp) q (hl.mem_iff.1 hq)) (hl.nodup_iff.2 hn) s]
  congr 2
  cases e : L.findSome? g with
  | none =>
    rw [List.findSome?_eq_none_iff] at e ⊢
    exact fun x hx => e x (hl.mem_iff.1 hx)
  | some t =>
    obtain ⟨p, hp, ht⟩ := List.exists_of_findSome?_eq_some e
    exact find_uniq (fun p hp q hq => hu p (hl.mem_iff.1 hp) q (hl.mem_iff.1 hq)) (hl.mem_iff.2 hp) ht
def joO (pe : Int × Str) (y : Int × Bool) (x : Bool) : Option (Int × Int) := bif x then some (pe.1, y.1) else none
def stepO (s : Str) (pe : Int × Str) : Option (Option (Int × Int)) :=
  (strings_TrimPrefix s pe.2).bind fun y86 => (atoiS y86).bind fun y89 => bif (!y89.2) then (wandererref_TokText (⟨pe.1, y89.1⟩ : Tok)).bind fun y97 => some (joO pe y89 (decide ((y97 : Str) = s))) else some (joO pe y89 false)
theorem j227_eq (pe : Int × Str) (y : Int × Bool) (a b : Int) (x : Bool) : srdExpr_j227 pe y a b x = some ((joO pe y x).getD (a, b)) := by
  unfold srdExpr_j227 joO; cases x <;> rfl
theorem b228_eq (s : Str) (pe : Int × Str) (st : Int × Int) : srdExpr_b228 s pe st = (stepO s pe).bind fun o => some (o.getD st) := by
  obtain ⟨a, b⟩ := st
  unfold srdExpr_b228 stepO
  simp only [j227_eq]
  cases strings_TrimPrefix s pe.2 with
  | none => rfl
  | some y =>
    simp only [bnd]
    cases atoiS y with
    | none => rfl
    | some z =>
      simp only [bnd]
      cases z.2 with
      | true => rfl
      | false =>
        simp only [Bool.not_false, cond_true]
        cases wandererref_TokText (⟨pe.1, z.1⟩ : Tok) <;> rfl
def gO (s : Str) (p : Int × Str) : Option (Int × Int) := (stepO s p).join
def okW (s : Str) : Bool := preL.all (fun p => (stepO s p).isSome) && preL.all (fun p => preL.all fun q => (gO s p).isNone || (gO s q).isNone || decide (p = q))
def preC (s : Str) : Int × Int := (preL.findSome? (gO s)).getD (0, 0)
theorem fold_ok {s : Str} (h : okW s = true) : foldAny (srdExpr_b228 s) preL (0, 0) = some (preC s) := by
  unfold okW at h
  rw [Bool.and_eq_true, List.all_eq_true, List.all_eq_true] at h
  refine foldAny_eq (folds_one (g := gO s) (fun p hp st => ?_) (fun p hp q hq h1 h2 => ?_) (by decide) (0, 0))
  · have h1 := h.1 p hp
    rw [b228_eq]
    unfold gO
    cases e : stepO s p with
    | none => rw [e] at h1; cases h1
    | some o => cases o <;> rfl
  · have := List.all_eq_true.1 (h.2 p hp) q hq
    rw [Bool.or_eq_true, Bool.or_eq_true] at this
    rcases this with (e | e) | e
    · exact absurd (Option.isNone_iff_eq_none.1 e) h1
    · exact absurd (Option.isNone_iff_eq_none.1 e) h2
    · exact of_decide_eq_true e
def foldC (s : Str) : Option (Int × Int) := bif okW s then some (preC s) else foldAny (srdExpr_b228 s) preL (0, 0)
theorem foldC_eq (s : Str) : foldC s = foldAny (srdExpr_b228 s) preL (0, 0) := by
  unfold foldC
  cases e : okW s with
  | false => rfl
  | true => exact (fold_ok e).symm
def srdExpr_j211' (N : Nat) (x17 : List Tok) (F : List Fun) (x18 : Int) (nx25 : (List Tok × Int × Bool × Int) → Option (List Tok × RdSt)) (x29 : Str) (y30 : Bool) (y31 : Int) : Option (List Tok × RdSt) :=
  (foldC x29).bind fun fin44 => (srdExpr_k229 N x29 x17 F y31 x18 nx25 y30) fin44
theorem srdExpr_j211_p : @srdExpr_j211' = @srdExpr_j211 := by
  funext a b c d e f g h
  unfold srdExpr_j211' srdExpr_j211
  rw [foldC_eq]
def srdExpr_b230' (N : Nat) (W : List Str) (F : List Fun) (s : List Tok × Int × Bool × Int) (nx25 : List Tok × Int × Bool × Int → Option (List Tok × RdSt)) : Option (List Tok × RdSt) :=
  match s with | (x17, x18, y19, y20) => bif (decide ((0 : Int) < x18) && y19) then bif decide (((W.length : Int) : Int) ≤ y20) then srdExpr_j211' N x17 F x18 nx25 [] false y20 else grd (I64 (y20 + 1)) (grd (I64 ((y20 + 1) - 1)) ((idx W ((y20 + 1) - 1)).bind fun x103 => srdExpr_j211' N x17 F x18 nx25 x103 y19 (y20 + 1))) else some (x17, (⟨y20, y19⟩ : RdSt))
theorem srdExpr_b230_p : @srdExpr_b230' = @srdExpr_b230 := by
  unfold srdExpr_b230' srdExpr_b230
  rw [srdExpr_j211_p]
def srdExpr' (N : Nat) (sx : RdSt) (W : List Str) (F : List Fun) : Option (List Tok × RdSt) :=
  again (srdExpr_b230' N W F) N ([], 1, sx.ok, sx.at_)
theorem srdExpr_p : @srdExpr' = @srdExpr := by
  unfold srdExpr' srdExpr
  rw [srdExpr_b230_p]
def srdBlock_j36' (N : Nat) (F0 : RdSt → List Str → List Fun → Int → Option (List GStmt × RdSt)) (y36 : Int) (W : List Str) (F : List Fun) (a : Int) (x16 : List GStmt) (y44 : Int) (nx23 : (List GStmt × Int × Bool) → Option (List GStmt × RdSt)) (y45 : Int) (y46 : Bool) (y48 : List Tok) : Option (List GStmt × RdSt) :=
  bif decide (((y36 + 1) : Int) = 2) then (srdExpr' N (⟨y45, y46⟩ : RdSt) W F).bind fun y86 => srdBlock_j37 F0 y36 a W F x16 y44 y48 nx23 y86.2.at_ y86.2.ok y86.1 else srdBlock_j37 F0 y36 a W F x16 y44 y48 nx23 y45 y46 []
theorem srdBlock_j36_p : @srdBlock_j36' = @srdBlock_j36 := by
  unfold srdBlock_j36' srdBlock_j36
  rw [srdExpr_p]
def srdBlock_j35' (N : Nat) (F0 : RdSt → List Str → List Fun → Int → Option (List GStmt × RdSt)) (y36 : Int) (W : List Str) (F : List Fun) (a : Int) (x16 : List GStmt) (nx23 : (List GStmt × Int × Bool) → Option (List GStmt × RdSt)) (y42 : Int) (y43 : Bool) (y44 : Int) : Option (List GStmt × RdSt) :=
  bif decide (((y36 + 1) : Int) ≠ 4) then (srdExpr' N (⟨y42, y43⟩ : RdSt) W F).bind fun y95 => srdBlock_j36' N F0 y36 W F a x16 y44 nx23 y95.2.at_ y95.2.ok y95.1 else srdBlock_j36' N F0 y36 W F a x16 y44 nx23 y42 y43 []
theorem srdBlock_j35_p : @srdBlock_j35' = @srdBlock_j35 := by
  unfold srdBlock_j35' srdBlock_j35
  rw [srdExpr_p, srdBlock_j36_p]
def srdBlock_j34' (N : Nat) (F0 : RdSt → List Str → List Fun → Int → Option (List GStmt × RdSt)) (x16 : List GStmt) (W : List Str) (F : List Fun) (a : Int) (nx23 : (List GStmt × Int × Bool) → Option (List GStmt × RdSt)) (x27 : Str) (y28 : Int) (y29 : Bool) : Option (List GStmt × RdSt) :=
  bif decide ((x27 : Str) = [125]) then some (x16, (⟨y28, y29⟩ : RdSt)) else (fieldsS [115, 101, 116, 32, 112, 117, 116, 32, 115, 97, 121, 32, 112, 97, 117, 115, 101, 32, 103, 111, 32, 105, 102, 32, 119, 104, 105, 108, 101, 32, 114, 101, 116, 117, 114, 110]).bind fun y31 => (slices_Index_string y31 x27).bind fun y36 => grd (I64 (y36 + 1)) (bif (!(y29 && decide ((0 : Int) < (y36 + 1)))) then some ([], (⟨y28, (y29 && decide ((0 : Int) < (y36 + 1)))⟩ : RdSt)) else bif decide (((y36 + 1) : Int) ≤ 2) then bif decide (((W.length : Int) : Int) ≤ y28) then (atoiS []).bind fun y104 => srdBlock_j35' N F0 y36 W F a x16 nx23 y28 false y104.1 else grd (I64 (y28 + 1)) (grd (I64 ((y28 + 1) - 1)) ((idx W ((y28 + 1) - 1)).bind fun x111 => (atoiS x111).bind fun y118 => srdBlock_j35' N F0 y36 W F a x16 nx23 (y28 + 1) (y29 && decide ((0 : Int) < (y36 + 1))) y118.1)) else srdBlock_j35' N F0 y36 W F a x16 nx23 y28 (y29 && decide ((0 : Int) < (y36 + 1))) 0)
theorem srdBlock_j34_p : @srdBlock_j34' = @srdBlock_j34 := by
  unfold srdBlock_j34' srdBlock_j34
  rw [srdBlock_j35_p]
def srdBlock_b40' (N : Nat) (F0 : RdSt → List Str → List Fun → Int → Option (List GStmt × RdSt)) (W : List Str) (F : List Fun) (a : Int) (s : List GStmt × Int × Bool) (nx23 : List GStmt × Int × Bool → Option (List GStmt × RdSt)) : Option (List GStmt × RdSt) :=
  match s with | (x16, y17, y18) => bif y18 then bif decide (((W.length : Int) : Int) ≤ y17) then srdBlock_j34' N F0 x16 W F a nx23 [] y17 false else grd (I64 (y17 + 1)) (grd (I64 ((y17 + 1) - 1)) ((idx W ((y17 + 1) - 1)).bind fun x126 => srdBlock_j34' N F0 x16 W F a nx23 x126 (y17 + 1) y18)) else some ([], (⟨y17, y18⟩ : RdSt))
theorem srdBlock_b40_p : @srdBlock_b40' = @srdBlock_b40 := by
  unfold srdBlock_b40' srdBlock_b40
  rw [srdBlock_j34_p]
def srdBlock_j2' (N : Nat) (F0 : RdSt → List Str → List Fun → Int → Option (List GStmt × RdSt)) (W : List Str) (F : List Fun) (a : Int) (y1 : Int) (y2 : Bool) : Option (List GStmt × RdSt) :=
  again (srdBlock_b40' N F0 W F a) N ([], y1, y2)
theorem srdBlock_j2_p : @srdBlock_j2' = @srdBlock_j2 := by
  unfold srdBlock_j2' srdBlock_j2
  rw [srdBlock_b40_p]
def srdBlock_j41' (N : Nat) (F0 : RdSt → List Str → List Fun → Int → Option (List GStmt × RdSt)) (W : List Str) (F : List Fun) (a : Int) (x133 : Bool) (y134 : Int) (y135 : Bool) : Option (List GStmt × RdSt) :=
  bif x133 then srdBlock_j2' N F0 W F a y134 false else srdBlock_j2' N F0 W F a y134 y135
theorem srdBlock_j41_p : @srdBlock_j41' = @srdBlock_j41 := by
  unfold srdBlock_j41' srdBlock_j41
  rw [srdBlock_j2_p]
def srdBlock_r' (N : Nat) (F0 : RdSt → List Str → List Fun → Int → Option (List GStmt × RdSt)) (sx : RdSt) (W : List Str) (F : List Fun) (a : Int) : Option (List GStmt × RdSt) :=
  bif decide (((W.length : Int) : Int) ≤ sx.at_) then srdBlock_j41' N F0 W F a true sx.at_ false else grd (I64 (sx.at_ + 1)) (grd (I64 ((sx.at_ + 1) - 1)) ((idx W ((sx.at_ + 1) - 1)).bind fun x140 => srdBlock_j41' N F0 W F a (decide ((x140 : Str) ≠ [123]) || decide ((6 : Int) < a)) (sx.at_ + 1) sx.ok))
theorem srdBlock_r_p : @srdBlock_r' = @srdBlock_r := by
  unfold srdBlock_r' srdBlock_r
  rw [srdBlock_j41_p]
def srdBlock' : Nat → RdSt → List Str → List Fun → Int → Option (List GStmt × RdSt)
  | 0 => fun _ _ _ _ => none
  | N + 1 => srdBlock_r' N (srdBlock' N)
theorem srdBlock_p : ∀ N, srdBlock' N = srdBlock N
  | 0 => rfl
  | N + 1 => by show srdBlock_r' N (srdBlock' N) = srdBlock_r N (srdBlock N); rw [srdBlock_r_p, srdBlock_p N]
def wandererref_SourceRead_j83' (N : Nat) (y1 : List Str) (y97 : List Fun) (i101 : Int) (nx104 : (List Fun × Int × Bool) → Option (List Fun × Int)) (y111 : Int) (y112 : Bool) : Option (List Fun × Int) :=
  (srdBlock' N (⟨y111, y112⟩ : RdSt) y1 y97 1).bind fun yq122x3_2 => (idx y97 i101).bind fun xq122x4_1 => nx104 ((y97.set (i101).toNat { xq122x4_1 with body := yq122x3_2.1 }), yq122x3_2.2.at_, yq122x3_2.2.ok)
theorem wandererref_SourceRead_j83_p : @wandererref_SourceRead_j83' = @wandererref_SourceRead_j83 := by
  unfold wandererref_SourceRead_j83' wandererref_SourceRead_j83
  rw [show @srdBlock' = @srdBlock from funext srdBlock_p]
def wandererref_SourceRead_j82' (N : Nat) (y1 : List Str) (y97 : List Fun) (i101 : Int) (nx104 : (List Fun × Int × Bool) → Option (List Fun × Int)) (y109 : Int) (y110 : Bool) : Option (List Fun × Int) :=
  bif decide (((y1.length : Int) : Int) ≤ y109) then wandererref_SourceRead_j83' N y1 y97 i101 nx104 y109 false else grd (I64 (y109 + 1)) (grd (I64 ((y109 + 1) - 1)) ((idx y1 ((y109 + 1) - 1)).bind fun x128 => wandererref_SourceRead_j83' N y1 y97 i101 nx104 (y109 + 1) y110))
theorem wandererref_SourceRead_j82_p : @wandererref_SourceRead_j82' = @wandererref_SourceRead_j82 := by
  unfold wandererref_SourceRead_j82' wandererref_SourceRead_j82
  rw [wandererref_SourceRead_j83_p]
def wandererref_SourceRead_j81' (N : Nat) (y1 : List Str) (y97 : List Fun) (i101 : Int) (nx104 : (List Fun × Int × Bool) → Option (List Fun × Int)) (y107 : Int) (y108 : Bool) : Option (List Fun × Int) :=
  bif decide (((y1.length : Int) : Int) ≤ y107) then wandererref_SourceRead_j82' N y1 y97 i101 nx104 y107 false else grd (I64 (y107 + 1)) (grd (I64 ((y107 + 1) - 1)) ((idx y1 ((y107 + 1) - 1)).bind fun x138 => wandererref_SourceRead_j82' N y1 y97 i101 nx104 (y107 + 1) y108))
theorem wandererref_SourceRead_j81_p : @wandererref_SourceRead_j81' = @wandererref_SourceRead_j81 := by
  unfold wandererref_SourceRead_j81' wandererref_SourceRead_j81
  rw [wandererref_SourceRead_j82_p]
def wandererref_SourceRead_j84' (N : Nat) (y1 : List Str) (y97 : List Fun) (i101 : Int) (nx104 : (List Fun × Int × Bool) → Option (List Fun × Int)) (x145 : Bool) (y146 : Int) (y147 : Bool) : Option (List Fun × Int) :=
  bif x145 then wandererref_SourceRead_j81' N y1 y97 i101 nx104 y146 false else wandererref_SourceRead_j81' N y1 y97 i101 nx104 y146 y147
theorem wandererref_SourceRead_j84_p : @wandererref_SourceRead_j84' = @wandererref_SourceRead_j84 := by
  unfold wandererref_SourceRead_j84' wandererref_SourceRead_j84
  rw [wandererref_SourceRead_j81_p]
def wandererref_SourceRead_b87' (N : Nat) (y1 : List Str) (i101 : Int) (s : List Fun × Int × Bool) (nx104 : List Fun × Int × Bool → Option (List Fun × Int)) : Option (List Fun × Int) :=
  match s with | (y97, y98, y99) => bif decide (((y1.length : Int) : Int) ≤ y98) then wandererref_SourceRead_j84' N y1 y97 i101 nx104 true y98 false else grd (I64 (y98 + 1)) (grd (I64 ((y98 + 1) - 1)) ((idx y1 ((y98 + 1) - 1)).bind fun x152 => wandererref_SourceRead_j84' N y1 y97 i101 nx104 (decide ((x152 : Str) ≠ [102, 117, 110])) (y98 + 1) y99))
theorem wandererref_SourceRead_b87_p : @wandererref_SourceRead_b87' = @wandererref_SourceRead_b87 := by
  unfold wandererref_SourceRead_b87' wandererref_SourceRead_b87
  rw [wandererref_SourceRead_j84_p]
def wandererref_SourceRead_k90' (N : Nat) (y1 : List Str) (a : Str) (y15 : List Fun) (s : Unit) : Option (List Fun × Int) :=
  upto (wandererref_SourceRead_b87' N y1) (wandererref_SourceRead_k88 N y1 a) 0 ((y15.length : Int)).toNat (y15, 0, true)
theorem wandererref_SourceRead_k90_p : @wandererref_SourceRead_k90' = @wandererref_SourceRead_k90 := by
  unfold wandererref_SourceRead_k90' wandererref_SourceRead_k90
  rw [wandererref_SourceRead_b87_p]
def wandererref_SourceRead_k92' (N : Nat) (y1 : List Str) (a : Str) (y15 : List Fun) : Option (List Fun × Int) :=
  bif (decide (((y15.length : Int) : Int) = 0) || decide ((4 : Int) < (y15.length : Int))) then some ([], 1) else upto (wandererref_SourceRead_b89 y15) (wandererref_SourceRead_k90' N y1 a y15) 0 ((y15.length : Int)).toNat ()
theorem wandererref_SourceRead_k92_p : @wandererref_SourceRead_k92' = @wandererref_SourceRead_k92 := by
  unfold wandererref_SourceRead_k92' wandererref_SourceRead_k92
  rw [wandererref_SourceRead_k90_p]
def wandererref_SourceRead' (N : Nat) (a : Str) : Option (List Fun × Int) :=
  (splitS a [32]).bind fun y1 => eachI (wandererref_SourceRead_b91 y1) (wandererref_SourceRead_k92' N y1 a) 0 y1 []
theorem wandererref_SourceRead_p : @wandererref_SourceRead' = @wandererref_SourceRead := by
  unfold wandererref_SourceRead' wandererref_SourceRead
  rw [wandererref_SourceRead_k92_p]
def wandererlaw_program' (N : Nat) : Option (List Fun) :=
  (wandererref_SourceRead' N [102, 117, 110, 32, 48, 32, 49, 32, 123, 32, 115, 101, 116, 32, 48, 32, 51, 32, 119, 104, 105, 108, 101, 32, 118, 48, 32, 123, 32, 115, 97, 121, 32, 102, 49, 32, 118, 48, 32, 118, 48, 32, 103, 111, 32, 118, 48, 32, 112, 97, 117, 115, 101, 32, 115, 101, 116, 32, 48, 32, 45, 32, 118, 48, 32, 49, 32, 125, 32, 125, 32, 102, 117, 110, 32, 50, 32, 50, 32, 123, 32, 114, 101, 116, 117, 114, 110, 32, 42, 32, 118, 48, 32, 118, 49, 32, 125]).bind fun y1 => some y1.1
theorem wandererlaw_program_p : @wandererlaw_program' = @wandererlaw_program := by
  unfold wandererlaw_program' wandererlaw_program
  rw [wandererref_SourceRead_p]
abbrev NN : Nat := 70000
theorem program_p : wandererlaw_program NN = wandererlaw_program' NN := by rw [wandererlaw_program_p]
theorem ran_ok : wandererlaw_ran NN = some true := by
  unfold wandererlaw_ran
  rw [program_p]
  kernel_rfl
end
end Go.Proofs.YtfclkapelkhlpaaGreatDoor
namespace Go.Proofs.YtfclkapelkhlpaaGreatDoor
open Go Go.Proofs Go.LX
theorem notBelow (a b : Int) : (decide (a < 0) || decide (b ≤ a)) = !wandererref_below a b := by
  unfold wandererref_below; rw [Bool.eq_iff_iff]; simp; try omega
theorem idx0 {α : Type} (x : α) (l : List α) : idx (x :: l) 0 = some x := by simp [idx]
theorem len_one {l : List Int} : l.length = 1 ↔ ∃ x, l = [x] := by
  match l with
  | [] => simp
  | [x] => simp
  | x :: y :: r => simp
def headOk (i : Nat) (x : Proc) : Int :=
  if (0 ≤ x.params ∧ x.params ≤ 3) ∧ (1 ≤ x.regs ∧ x.params ≤ x.regs ∧ x.regs ≤ 40) ∧ ¬ (i = 0 ∧ x.params ≠ 0) then (if 1 ≤ x.code.length ∧ x.code.length ≤ 2000 then 0 else 2) else 3
theorem b39_eq (i : Nat) (x : Proc) (nx : Unit → Option Int) : code_Check_b39 (i : Int) x () nx = if headOk i x ≠ 0 then some (headOk i x) else nx () := by
  unfold code_Check_b39 headOk
  by_cases h1 : (0 ≤ x.params ∧ x.params ≤ 3) ∧ (1 ≤ x.regs ∧ x.params ≤ x.regs ∧ x.regs ≤ 40) ∧ ¬ (i = 0 ∧ x.params ≠ 0)
  · have e : (((((decide ((x.params : Int) < 0) || decide ((3 : Int) < x.params)) || decide ((x.regs : Int) < 1)) || decide ((x.regs : Int) < x.params)) || decide ((40 : Int) < x.regs)) || (decide ((i : Int) = 0) && decide ((0 : Int) < x.params))) = false := by
      simp only [Bool.or_eq_false_iff, Bool.and_eq_false_iff, decide_eq_false_iff_not]; omega
    rw [e, if_pos h1]
    simp only [cond_false]
    by_cases h2 : 1 ≤ x.code.length ∧ x.code.length ≤ 2000
    · rw [if_pos h2, show (decide (((x.code.length : Int) : Int) = 0) || decide ((2000 : Int) < (x.code.length : Int))) = false by simp only [Bool.or_eq_false_iff, decide_eq_false_iff_not]; omega]
      rfl
    · rw [if_neg h2, show (decide (((x.code.length : Int) : Int) = 0) || decide ((2000 : Int) < (x.code.length : Int))) = true by simp only [Bool.or_eq_true, decide_eq_true_eq]; omega]
      rfl
  · have e : (((((decide ((x.params : Int) < 0) || decide ((3 : Int) < x.params)) || decide ((x.regs : Int) < 1)) || decide ((x.regs : Int) < x.params)) || decide ((40 : Int) < x.regs)) || (decide ((i : Int) = 0) && decide ((0 : Int) < x.params))) = true := by
      simp only [Bool.or_eq_true, Bool.and_eq_true, decide_eq_true_eq]; omega
    rw [e, if_neg h1]
    rfl
def heads : Nat → List Proc → Int
  | _, [] => 0
  | i, x :: p => if headOk i x ≠ 0 then headOk i x else heads (i + 1) p
theorem heads_eq (k : Unit → Option Int) : ∀ (p : List Proc) (i : Nat), eachI code_Check_b39 k (i : Int) p () = if heads i p ≠ 0 then some (heads i p) else k ()
  | [], i => by simp [heads, eachI]
  | x :: p, i => by
    show code_Check_b39 (i : Int) x () (eachI code_Check_b39 k ((i : Int) + 1) p) = _
    rw [b39_eq, show ((i : Int) + 1) = ((i + 1 : Nat) : Int) by omega, heads_eq k p (i + 1), heads]
    by_cases h : headOk i x = 0 <;> simp [h]
end Go.Proofs.YtfclkapelkhlpaaGreatDoor
namespace Go.Proofs.YtfclkapelkhlpaaGreatDoor
open Go Go.Proofs Go.LX
def CodeLen (x : Proc) : Prop := 1 ≤ x.code.length ∧ x.code.length ≤ 2000
theorem each_cons {α σ ρ : Type} {body : α → σ → (σ → ρ) → ρ} {k : σ → ρ} (x : α) (l : List α) (s : σ) : each body k (x :: l) s = body x s (each body k l) := rfl
theorem each_nil {α σ ρ : Type} {body : α → σ → (σ → ρ) → ρ} {k : σ → ρ} (s : σ) : each body k [] s = k s := rfl
theorem b8_tot (d : Int) : ∀ l : List Int, ∃ y, each (code_check_b8 d) code_check_k9 l () = some y
  | [] => ⟨0, rfl⟩
  | x :: l => by
    obtain ⟨y, hy⟩ := b8_tot d l
    rw [each_cons]
    unfold code_check_b8
    cases (!(decide ((0 : Int) ≤ x) && decide ((x : Int) < d))) with
    | true => exact ⟨3, rfl⟩
    | false => exact ⟨y, hy⟩
theorem j5_tot (x9 : Bool) (a : Ins) (b y12 : Int) (c : List Proc) (y13 x10 d y14 : Int) : ∃ y, code_check_j5 x9 a b y12 c y13 x10 d y14 = some y ∧ (y = 0 → (a.args.length : Int) = x10) := by
  unfold code_check_j5
  cases x9 with
  | false => exact ⟨3, rfl, fun h => absurd h (by decide)⟩
  | true =>
    simp only [Bool.not_true, cond_false]
    generalize hc : (((decide ((a.a : Int) ≠ y14) || decide ((a.b : Int) ≠ y12)) || decide ((a.c : Int) ≠ y13)) || decide (((a.args.length : Int) : Int) ≠ x10)) = C
    cases C with
    | true => exact ⟨4, rfl, fun h => absurd h (by decide)⟩
    | false =>
      simp only [Bool.or_eq_false_iff, decide_eq_false_iff_not, Decidable.not_not] at hc
      simp only [cond_false]
      cases decide ((a.op : Int) = 7) with
      | true => obtain ⟨y, hy⟩ := b8_tot d a.args; exact ⟨y, hy, fun _ => hc.2⟩
      | false => exact ⟨0, rfl, fun _ => hc.2⟩
theorem j4_tot (a : Ins) (b : Int) (c : List Proc) (d : Int) (x9 : Bool) (x10 y11 y12 y13 : Int) : ∃ y, code_check_j4 a b c d x9 x10 y11 y12 y13 = some y ∧ (y = 0 → (a.args.length : Int) = x10) := by
  unfold code_check_j4
  cases decide ((a.op : Int) = 12) with
  | true => exact j5_tot x9 a b y12 c y13 x10 d 0
  | false => exact j5_tot x9 a b y12 c y13 x10 d y11
def InsT (a : Ins) (r : Option Int) : Prop := ∃ y, r = some y ∧ (y = 0 → a.args.length ≤ 3)
theorem j4_t (a : Ins) (b : Int) (c : List Proc) (d : Int) (x9 : Bool) {x10 : Int} (y11 y12 y13 : Int) (h : x10 ≤ 3) : InsT a (code_check_j4 a b c d x9 x10 y11 y12 y13) := by
  obtain ⟨y, h1, h2⟩ := j4_tot a b c d x9 x10 y11 y12 y13
  exact ⟨y, h1, fun h0 => by have := h2 h0; omega⟩
theorem insT_bif {a : Ins} {c : Bool} {x y : Option Int} (h1 : InsT a x) (h2 : InsT a y) : InsT a (bif c then x else y) := by
  cases c
  · exact h2
  · exact h1
theorem insT_err {a : Ins} {e : Int} (h : e ≠ 0) : InsT a (some e) := ⟨e, rfl, fun h0 => absurd h0 h⟩
theorem check_ins (a : Ins) (b : Int) (c : List Proc) (d e : Int) (hp : ∀ x ∈ c, x.params ≤ 3) : InsT a (code_check a b c d e) := by
  unfold code_check
  refine insT_bif (insT_err (by decide)) (insT_bif (insT_err (by decide)) (insT_bif (j4_t _ _ _ _ _ _ _ _ (by decide)) (insT_bif (j4_t _ _ _ _ _ _ _ _ (by decide)) ?_)))
  have k12 : ∀ x, InsT a (code_check_j12 a b c d x) := fun x => by
    unfold code_check_j12
    exact insT_bif (j4_t _ _ _ _ _ _ _ _ (by decide)) (insT_bif (j4_t _ _ _ _ _ _ _ _ (by decide)) (j4_t _ _ _ _ _ _ _ _ (by decide)))
  have k11 : ∀ x, InsT a (code_check_j11 a b c d e x) := fun x => by
    unfold code_check_j11
    refine insT_bif (j4_t _ _ _ _ _ _ _ _ (by decide)) ?_
    cases decide ((a.op : Int) = 7) with
    | false =>
      rw [cond_false]
      exact insT_bif (k12 _) (insT_bif (k12 _) (k12 _))
    | true =>
      simp only [cond_true]
      rw [notBelow]
      cases hb : wandererref_below a.b (c.length : Int) with
      | false => exact insT_err (by decide)
      | true =>
        simp only [Bool.not_true, cond_false]
        unfold wandererref_below at hb
        simp only [Bool.and_eq_true, decide_eq_true_eq] at hb
        obtain ⟨n, hn⟩ := Int.eq_ofNat_of_zero_le hb.1
        rw [hn, idx_lt (by omega), Option.bind_some]
        exact j4_t _ _ _ _ _ _ _ _ (hp _ (List.getElem_mem _))
  have k10 : ∀ x, InsT a (code_check_j10 a b c d e x) := fun x => by
    unfold code_check_j10
    refine insT_bif (j4_t _ _ _ _ _ _ _ _ (by decide)) ?_
    cases decide ((a.op : Int) = 3) with
    | false =>
      rw [cond_false]
      exact insT_bif (k11 _) (k11 _)
    | true =>
      simp only [cond_true]
      by_cases h1 : a.args.length = 1
      · rw [dT (show ((a.args.length : Int) : Int) = 1 by omega)]
        obtain ⟨y, hy⟩ := len_one.1 h1
        simp only [cond_true]
        rw [show idx a.args 0 = some y by rw [hy, idx0], Option.bind_some]
        exact j4_t _ _ _ _ _ _ _ _ (by decide)
      · rw [dF (show ¬ ((a.args.length : Int) : Int) = 1 by omega)]
        exact j4_t _ _ _ _ _ _ _ _ (by decide)
  exact insT_bif (k10 _) (k10 _)
def Good (a : List Proc) : Prop := a.length ≤ 4 ∧ ∀ x ∈ a, CodeLen x ∧ ∀ c ∈ x.code, c.args.length ≤ 3
theorem headOk_zero {i : Nat} {x : Proc} (h : headOk i x = 0) : x.params ≤ 3 ∧ CodeLen x := by
  unfold headOk at h
  split at h
  · split at h
    · exact ⟨by omega, by unfold CodeLen; omega⟩
    · cases h
  · cases h
theorem heads_zero : ∀ (p : List Proc) (i : Nat), heads i p = 0 → ∀ x ∈ p, x.params ≤ 3 ∧ CodeLen x
  | [], _, _, x, hx => by cases hx
  | y :: p, i, h, x, hx => by
    unfold heads at h
    split at h
    · rename_i h1; exact absurd h h1
    · rename_i h1
      rcases List.mem_cons.1 hx with rfl | hx
      · exact headOk_zero (Decidable.not_not.1 h1)
      · exact heads_zero p (i + 1) h x hx
theorem b35_tot (a : List Proc) (x : Proc) (k : Unit → Option Int) (hp : ∀ x ∈ a, x.params ≤ 3) (Q : Prop) (hk : ∃ y, k () = some y ∧ (y = 0 → Q)) : ∀ (l : List Ins) (i : Int), ∃ y, eachI (code_Check_b35 a x) k i l () = some y ∧ (y = 0 → Q ∧ ∀ c ∈ l, c.args.length ≤ 3)
  | [], i => by
    obtain ⟨y, h1, h2⟩ := hk
    exact ⟨y, h1, fun h => ⟨h2 h, by intro c hc; cases hc⟩⟩
  | c :: l, i => by
    obtain ⟨y, h1, h2⟩ := b35_tot a x k hp Q hk l (i + 1)
    have e1 : eachI (code_Check_b35 a x) k i (c :: l) () = code_Check_b35 a x i c () (eachI (code_Check_b35 a x) k (i + 1) l) := rfl
    rw [e1]
    unfold code_Check_b35
    obtain ⟨z, g1, g2⟩ := check_ins c i a x.regs (x.code.length : Int) hp
    rw [g1, Option.bind_some]
    by_cases hz : z = 0
    · rw [dF (by omega), cond_false]
      refine ⟨y, h1, fun h => ⟨(h2 h).1, fun d hd => ?_⟩⟩
      rcases List.mem_cons.1 hd with rfl | hd
      · exact g2 hz
      · exact (h2 h).2 d hd
    · rw [dT hz, cond_true]
      exact ⟨z, rfl, fun h => absurd h hz⟩
theorem b37_tot (a : List Proc) (hp : ∀ x ∈ a, x.params ≤ 3 ∧ CodeLen x) : ∀ l : List Proc, (∀ x ∈ l, x.params ≤ 3 ∧ CodeLen x) → ∃ y, each (code_Check_b37 a) code_Check_k38 l () = some y ∧ (y = 0 → ∀ x ∈ l, ∀ c ∈ x.code, c.args.length ≤ 3)
  | [], _ => ⟨0, rfl, fun _ x hx => by cases hx⟩
  | x :: l, hl => by
    obtain ⟨y, h1, h2⟩ := b37_tot a hp l (fun z hz => hl z (List.mem_cons_of_mem _ hz))
    rw [each_cons]
    unfold code_Check_b37
    have hx := hl x (by simp)
    obtain ⟨z, g1, g2⟩ := b35_tot a x (code_Check_k36 x (each (code_Check_b37 a) code_Check_k38 l)) (fun x hx => (hp x hx).1) (∀ x ∈ l, ∀ c ∈ x.code, c.args.length ≤ 3) (by
      unfold code_Check_k36
      have h3 := hx.2
      unfold CodeLen at h3
      rw [gI, show ((x.code.length : Int) - 1) = ((x.code.length - 1 : Nat) : Int) by omega, idx_lt (by omega), Option.bind_some]
      cases (decide ((x.code[x.code.length - 1].op : Int) ≠ 8) && decide ((x.code[x.code.length - 1].op : Int) ≠ 12)) with
      | true => exact ⟨4, rfl, fun h => absurd h (by decide)⟩
      | false => exact ⟨y, h1, h2⟩) x.code 0
    refine ⟨z, g1, fun h => ?_⟩
    intro w hw
    rcases List.mem_cons.1 hw with rfl | hw
    · exact (g2 h).2
    · exact (g2 h).1 w hw
theorem check_tot (a : List Proc) : ∃ y, code_Check a = some y ∧ (y = 0 → Good a) := by
  unfold code_Check
  generalize hc : (decide (((a.length : Int) : Int) = 0) || decide ((4 : Int) < (a.length : Int))) = C
  cases C with
  | true => exact ⟨2, rfl, fun h => absurd h (by decide)⟩
  | false =>
    simp only [Bool.or_eq_false_iff, decide_eq_false_iff_not] at hc
    have h1 : eachI code_Check_b39 (code_Check_k40 a) 0 a () = _ := heads_eq (code_Check_k40 a) a 0
    rw [cond_false, h1]
    by_cases hz : heads 0 a = 0
    · rw [if_neg (by omega)]
      have hp := heads_zero a 0 hz
      obtain ⟨y, g1, g2⟩ := b37_tot a hp a hp
      exact ⟨y, g1, fun h => ⟨by omega, fun x hx => ⟨(hp x hx).2, g2 h x hx⟩⟩⟩
    · rw [if_pos hz]
      exact ⟨_, rfl, fun h => absurd h hz⟩
def chk (a : List Proc) : Int := (code_Check a).getD 0
theorem chk_eq (a : List Proc) : code_Check a = some (chk a) := by
  obtain ⟨y, h, _⟩ := check_tot a
  unfold chk
  rw [h]; rfl
def Reg (R x : Int) : Prop := 0 ≤ x ∧ x < R
def InsG (a : List Proc) (R L : Int) (c : Ins) : Prop :=
  (c.op = 1 ∧ Reg R c.a ∧ (-1000000000 ≤ c.b ∧ c.b ≤ 1000000000)) ∨
  (c.op = 2 ∧ Reg R c.a ∧ Reg R c.b) ∨
  (c.op = 3 ∧ Reg R c.a ∧ Reg R c.b ∧ Reg R c.c ∧ ∃ n, c.args = [n] ∧ 1 ≤ n ∧ n ≤ 5) ∨
  ((c.op = 4 ∨ c.op = 6) ∧ Reg R c.a ∧ Reg R c.b ∧ (0 ≤ c.c ∧ c.c < 4)) ∨
  (c.op = 5 ∧ Reg R c.a ∧ (1 ≤ c.b ∧ c.b ≤ 4)) ∨
  (c.op = 7 ∧ Reg R c.a ∧ (∃ p, idx a c.b = some p ∧ (c.args.length : Int) = p.params) ∧ ∀ x ∈ c.args, Reg R x) ∨
  ((c.op = 8 ∨ c.op = 9 ∨ c.op = 11) ∧ Reg R c.a) ∨
  c.op = 10 ∨
  (c.op = 12 ∧ (0 ≤ c.b ∧ c.b < L)) ∨
  (c.op = 13 ∧ Reg R c.a ∧ (0 ≤ c.b ∧ c.b < L))
theorem each_b8 (R : Int) : ∀ l : List Int, each (code_check_b8 R) code_check_k9 l () = some 0 → ∀ x ∈ l, Reg R x
  | [], _, x, hx => by cases hx
  | y :: l, h, x, hx => by
    rw [each_cons] at h
    unfold code_check_b8 at h
    cases e : (!(decide ((0 : Int) ≤ y) && decide ((y : Int) < R))) with
    | true => rw [e, cond_true] at h; cases h
    | false =>
      rw [e, cond_false] at h
      rcases List.mem_cons.1 hx with rfl | hx
      · simp at e; exact e
      · exact each_b8 R l h x hx
theorem insG_of {c : Ins} {i : Int} {a : List Proc} {R L : Int} (h : code_check c i a R L = some 0) : InsG a R L c := by
  obtain ⟨op, ca, cb, cc, args⟩ := c
  by_cases h1 : op = 1
  · subst h1
    simp [code_check, code_uses, code_uses_j4, code_uses_j5, code_uses_j6, code_check_1_, code_check_j4, code_check_j5, code_check_j10, code_check_j11, code_check_j12, Bool.cond_eq_ite] at h
    simp [InsG, Reg]
    (repeat (split at h; · simp at h))
    omega
  by_cases h2 : op = 2
  · subst h2
    simp [code_check, code_uses, code_uses_j4, code_uses_j5, code_uses_j6, code_check_1_, code_check_j4, code_check_j5, code_check_j10, code_check_j11, code_check_j12, Bool.cond_eq_ite] at h
    simp [InsG, Reg]
    (repeat (split at h; · simp at h))
    omega
  by_cases h3 : op = 3
  · subst h3
    simp [code_check, code_uses, code_uses_j4, code_uses_j5, code_uses_j6, code_check_1_, code_check_j4, code_check_j5, code_check_j10, code_check_j11, code_check_j12, Bool.cond_eq_ite] at h
    simp [InsG, Reg]
    by_cases hl : args.length = 1
    · obtain ⟨y, rfl⟩ := len_one.1 hl
      simp [idx0] at h
      split at h
      · simp at h
      split at h
      · simp at h
      refine ⟨by omega, by omega, by omega, y, rfl, by omega, by omega⟩
    · exfalso
      rw [if_neg (show ¬ ((args.length : Int) = 1) by omega)] at h
      split at h <;> simp at h
  by_cases h4 : op = 4
  · subst h4
    simp [code_check, code_uses, code_uses_j4, code_uses_j5, code_uses_j6, code_check_1_, code_check_j4, code_check_j5, code_check_j10, code_check_j11, code_check_j12, Bool.cond_eq_ite] at h
    simp [InsG, Reg]
    (repeat (split at h; · simp at h))
    omega
  by_cases h5 : op = 5
  · subst h5
    simp [code_check, code_uses, code_uses_j4, code_uses_j5, code_uses_j6, code_check_1_, code_check_j4, code_check_j5, code_check_j10, code_check_j11, code_check_j12, Bool.cond_eq_ite] at h
    simp [InsG, Reg]
    (repeat (split at h; · simp at h))
    omega
  by_cases h6 : op = 6
  · subst h6
    simp [code_check, code_uses, code_uses_j4, code_uses_j5, code_uses_j6, code_check_1_, code_check_j4, code_check_j5, code_check_j10, code_check_j11, code_check_j12, Bool.cond_eq_ite] at h
    simp [InsG, Reg]
    (repeat (split at h; · simp at h))
    omega
  by_cases h7 : op = 7
  · subst h7
    simp [code_check, code_uses, code_uses_j4, code_uses_j5, code_uses_j6, code_check_1_, code_check_j4, code_check_j5, code_check_j10, code_check_j11, code_check_j12, Bool.cond_eq_ite] at h
    simp [InsG, Reg]
    split at h
    · simp at h
    split at h
    · simp at h
    obtain ⟨p, hp, h⟩ := o_bind h
    (repeat (split at h; · simp at h))
    refine ⟨by omega, ⟨p, hp, by omega⟩, fun x hx => each_b8 R args h x hx⟩
  by_cases h8 : op = 8
  · subst h8
    simp [code_check, code_uses, code_uses_j4, code_uses_j5, code_uses_j6, code_check_1_, code_check_j4, code_check_j5, code_check_j10, code_check_j11, code_check_j12, Bool.cond_eq_ite] at h
    simp [InsG, Reg]
    (repeat (split at h; · simp at h))
    omega
  by_cases h9 : op = 9
  · subst h9
    simp [code_check, code_uses, code_uses_j4, code_uses_j5, code_uses_j6, code_check_1_, code_check_j4, code_check_j5, code_check_j10, code_check_j11, code_check_j12, Bool.cond_eq_ite] at h
    simp [InsG, Reg]
    (repeat (split at h; · simp at h))
    omega
  by_cases h10 : op = 10
  · subst h10
    simp [InsG, Reg]
  by_cases h11 : op = 11
  · subst h11
    simp [code_check, code_uses, code_uses_j4, code_uses_j5, code_uses_j6, code_check_1_, code_check_j4, code_check_j5, code_check_j10, code_check_j11, code_check_j12, Bool.cond_eq_ite] at h
    simp [InsG, Reg]
    (repeat (split at h; · simp at h))
    omega
  by_cases h12 : op = 12
  · subst h12
    simp [code_check, code_uses, code_uses_j4, code_uses_j5, code_uses_j6, code_check_1_, code_check_j4, code_check_j5, code_check_j10, code_check_j11, code_check_j12, Bool.cond_eq_ite] at h
    simp [InsG, Reg]
    (repeat (split at h; · simp at h))
    omega
  by_cases h13 : op = 13
  · subst h13
    simp [code_check, code_uses, code_uses_j4, code_uses_j5, code_uses_j6, code_check_1_, code_check_j4, code_check_j5, code_check_j10, code_check_j11, code_check_j12, Bool.cond_eq_ite] at h
    simp [InsG, Reg]
    (repeat (split at h; · simp at h))
    omega
  · exfalso
    simp [code_check, code_uses, code_uses_j4, code_uses_j5, code_uses_j6, code_check_1_, code_check_j4, code_check_j5, code_check_j10, code_check_j11, code_check_j12, Bool.cond_eq_ite, *] at h
structure CodeOk (a : List Proc) : Prop where
  many : 1 ≤ a.length ∧ a.length ≤ 4
  head : ∀ (i : Nat) x, a[i]? = some x → (0 ≤ x.params ∧ x.params ≤ 3) ∧ (1 ≤ x.regs ∧ x.params ≤ x.regs ∧ x.regs ≤ 40) ∧ ¬ (i = 0 ∧ x.params ≠ 0) ∧ CodeLen x
  last : ∀ x ∈ a, ∃ c, idx x.code ((x.code.length : Int) - 1) = some c ∧ (c.op = 8 ∨ c.op = 12)
  ins : ∀ x ∈ a, ∀ c ∈ x.code, InsG a x.regs x.code.length c
theorem heads_all : ∀ (p : List Proc) (j : Nat), heads j p = 0 → ∀ (i : Nat) x, p[i]? = some x → headOk (j + i) x = 0
  | [], j, _, i, x, hx => by simp at hx
  | y :: p, j, h, i, x, hx => by
    unfold heads at h
    split at h
    · rename_i h1; exact absurd h h1
    · rename_i h1
      cases i with
      | zero => simp at hx; subst hx; exact Decidable.not_not.1 h1
      | succ i => rw [show j + (i + 1) = (j + 1) + i by omega]; exact heads_all p (j + 1) h i x (by simpa using hx)
theorem b35_ins (a : List Proc) (x : Proc) (k : Unit → Option Int) : ∀ (l : List Ins) (i : Int), eachI (code_Check_b35 a x) k i l () = some 0 → k () = some 0 ∧ ∀ c ∈ l, InsG a x.regs x.code.length c
  | [], i, h => ⟨h, fun c hc => by cases hc⟩
  | y :: l, i, h => by
    have e1 : eachI (code_Check_b35 a x) k i (y :: l) () = code_Check_b35 a x i y () (eachI (code_Check_b35 a x) k (i + 1) l) := rfl
    rw [e1] at h
    unfold code_Check_b35 at h
    obtain ⟨z, hz, h⟩ := o_bind h
    by_cases z0 : z = 0
    · subst z0
      rw [dF (by simp), cond_false] at h
      obtain ⟨h1, h2⟩ := b35_ins a x k l (i + 1) h
      refine ⟨h1, fun c hc => ?_⟩
      rcases List.mem_cons.1 hc with rfl | hc
      · exact insG_of hz
      · exact h2 c hc
    · rw [dT z0, cond_true] at h
      exact absurd (Option.some.inj h) z0
theorem b37_ins (a : List Proc) : ∀ l : List Proc, each (code_Check_b37 a) code_Check_k38 l () = some 0 → ∀ x ∈ l, (∃ c, idx x.code ((x.code.length : Int) - 1) = some c ∧ (c.op = 8 ∨ c.op = 12)) ∧ ∀ c ∈ x.code, InsG a x.regs x.code.length c
  | [], _, x, hx => by cases hx
  | y :: l, h, x, hx => by
    rw [each_cons] at h
    unfold code_Check_b37 at h
    obtain ⟨h1, h2⟩ := b35_ins a y _ y.code 0 h
    unfold code_Check_k36 at h1
    obtain ⟨_, h1⟩ := o_grd h1
    obtain ⟨c, hc, h1⟩ := o_bind h1
    cases e : (decide ((c.op : Int) ≠ 8) && decide ((c.op : Int) ≠ 12)) with
    | true => rw [e, cond_true] at h1; cases h1
    | false =>
      rw [e, cond_false] at h1
      rcases List.mem_cons.1 hx with rfl | hx
      · exact ⟨⟨c, hc, by simp only [Bool.and_eq_false_iff, decide_eq_false_iff_not, Decidable.not_not] at e; exact e⟩, h2⟩
      · exact b37_ins a l h1 x hx
theorem chk_code {a : List Proc} (h : chk a = 0) : CodeOk a := by
  have h0 := chk_eq a
  rw [h] at h0
  unfold code_Check at h0
  generalize hc : (decide (((a.length : Int) : Int) = 0) || decide ((4 : Int) < (a.length : Int))) = C at h0
  cases C with
  | true => cases h0
  | false =>
    simp only [Bool.or_eq_false_iff, decide_eq_false_iff_not] at hc
    have h1 : eachI code_Check_b39 (code_Check_k40 a) 0 a () = _ := heads_eq (code_Check_k40 a) a 0
    rw [cond_false, h1] at h0
    by_cases hz : heads 0 a = 0
    · rw [if_neg (by omega)] at h0
      have hb := b37_ins a a h0
      refine ⟨by omega, fun i x hx => ?_, fun x hx => (hb x hx).1, fun x hx => (hb x hx).2⟩
      have := heads_all a 0 hz i x hx
      rw [Nat.zero_add] at this
      unfold headOk at this
      split at this
      · rename_i g
        split at this
        · rename_i g2; exact ⟨g.1, g.2.1, g.2.2, g2⟩
        · cases this
      · cases this
    · rw [if_pos hz] at h0
      exact absurd (Option.some.inj h0) hz
end Go.Proofs.YtfclkapelkhlpaaGreatDoor
namespace Go.Proofs.YtfclkapelkhlpaaGreatDoor
open Go Go.Proofs Go.LX
theorem eachI_cons {α σ ρ : Type} {body : Int → α → σ → (σ → ρ) → ρ} {k : σ → ρ} (i : Int) (x : α) (l : List α) (s : σ) : eachI body k i (x :: l) s = body i x s (eachI body k (i + 1) l) := rfl
theorem upto_succ {σ ρ : Type} {body : Int → σ → (σ → ρ) → ρ} {k : σ → ρ} (i : Int) (m : Nat) (s : σ) : upto body k i (m + 1) s = body i s (upto body k (i + 1) m) := rfl
theorem again_s {σ β : Type} {body : σ → (σ → Option β) → Option β} {m : Nat} {s : σ} : again body (m + 1) s = body s (again body m) := rfl
def ValOk (n : Nat) (v : Val) : Prop := (v.kind = 0 ∧ v.n = 0) ∨ (v.kind = 1 ∧ -1000000000 ≤ v.n ∧ v.n ≤ 1000000000) ∨ (v.kind = 2 ∧ 0 ≤ v.n ∧ v.n < n)
instance (n : Nat) (v : Val) : Decidable (ValOk n v) := inferInstanceAs (Decidable (_ ∨ _))
theorem check_ok (n : Nat) (v : Val) : cell_Check v (n : Int) = 0 ↔ ValOk n v := by
  obtain ⟨k, m⟩ := v
  simp only [cell_Check, ValOk, Bool.cond_eq_ite, Bool.or_eq_true, decide_eq_true_eq]
  constructor
  · intro h
    (repeat' split at h) <;> first | omega | (exfalso; omega)
  · intro h
    rcases h with ⟨h1, h2⟩ | ⟨h1, h2⟩ | ⟨h1, h2⟩
    · rw [if_pos h1, if_neg (by omega)]
    · rw [if_neg (by omega), if_pos h1, if_neg (by omega)]
    · rw [if_neg (by omega), if_neg (by omega), if_pos h1, if_neg (by omega)]
theorem value_eq (v : Val) (n : Int) : wandererref_CheckValue v n = cell_Check v n := by
  obtain ⟨k, m⟩ := v
  simp only [cell_Check, wandererref_CheckValue, wandererref_CheckValue_j2, wandererref_in, wandererref_fits, wandererref_below, Bool.cond_eq_ite, Bool.or_eq_true, Bool.and_eq_true, Bool.not_eq_true', decide_eq_true_eq, decide_eq_false_iff_not, Bool.and_eq_false_iff]
  (repeat' split) <;> first | rfl | (exfalso; omega)
def CellsOk (l : List (List Val)) : Prop := l.length ≤ 24 ∧ ∀ c ∈ l, (1 ≤ c.length ∧ c.length ≤ 4) ∧ ∀ v ∈ c, ValOk l.length v
theorem cells_eq (a : List (List Val)) : wandererref_CheckCells a = cell_CheckAll a := by
  unfold wandererref_CheckCells cell_CheckAll
  have k1 : ∀ (l : List Val) (f : Unit → Int), each (wandererref_CheckCells_b17 a) (wandererref_CheckCells_k18 f) l () = each (cell_CheckAll_b17 a) (cell_CheckAll_k18 f) l () := by
    intro l f
    induction l with
    | nil => rfl
    | cons x l ih =>
      show (bif decide ((wandererref_CheckValue x (a.length : Int) : Int) ≠ 0) then wandererref_CheckValue x (a.length : Int) else each (wandererref_CheckCells_b17 a) (wandererref_CheckCells_k18 f) l ()) = (bif decide ((cell_Check x (a.length : Int) : Int) ≠ 0) then cell_Check x (a.length : Int) else each (cell_CheckAll_b17 a) (cell_CheckAll_k18 f) l ())
      rw [value_eq, ih]
  have k2 : ∀ l : List (List Val), each (wandererref_CheckCells_b19 a) wandererref_CheckCells_k20 l () = each (cell_CheckAll_b19 a) cell_CheckAll_k20 l () := by
    intro l
    induction l with
    | nil => rfl
    | cons x l ih =>
      show (bif (!(wandererref_in (x.length : Int) 1 4)) then 2 else each (wandererref_CheckCells_b17 a) (wandererref_CheckCells_k18 (each (wandererref_CheckCells_b19 a) wandererref_CheckCells_k20 l)) x ()) = (bif (decide (((x.length : Int) : Int) = 0) || decide ((4 : Int) < (x.length : Int))) then 2 else each (cell_CheckAll_b17 a) (cell_CheckAll_k18 (each (cell_CheckAll_b19 a) cell_CheckAll_k20 l)) x ())
      have e : (!(wandererref_in (x.length : Int) 1 4)) = (decide (((x.length : Int) : Int) = 0) || decide ((4 : Int) < (x.length : Int))) := by
        unfold wandererref_in; rw [Bool.eq_iff_iff]; simp only [Bool.or_eq_true, Bool.not_eq_true', Bool.and_eq_false_iff, decide_eq_true_eq, decide_eq_false_iff_not]; omega
      rw [e, k1]
      have : each (wandererref_CheckCells_b19 a) wandererref_CheckCells_k20 l = each (cell_CheckAll_b19 a) cell_CheckAll_k20 l := by funext u; exact ih
      rw [this]
  rw [k2]
theorem all_ok (a : List (List Val)) : cell_CheckAll a = 0 ↔ CellsOk a := by
  have k1 : ∀ (l : List Val) (f : Unit → Int), each (cell_CheckAll_b17 a) (cell_CheckAll_k18 f) l () = 0 ↔ (∀ v ∈ l, ValOk a.length v) ∧ f () = 0 := by
    intro l f
    induction l with
    | nil => simp [each_nil, cell_CheckAll_k18]
    | cons x l ih =>
      show (bif decide ((cell_Check x (a.length : Int) : Int) ≠ 0) then cell_Check x (a.length : Int) else each (cell_CheckAll_b17 a) (cell_CheckAll_k18 f) l ()) = 0 ↔ _
      by_cases h : cell_Check x (a.length : Int) = 0
      · rw [dF (by omega), cond_false, ih]
        have := (check_ok _ _).1 h
        simp [this]
      · rw [dT h, cond_true]
        have h2 : ¬ ValOk a.length x := fun e => h ((check_ok _ _).2 e)
        simp [h, h2]
  have k2 : ∀ l : List (List Val), each (cell_CheckAll_b19 a) cell_CheckAll_k20 l () = 0 ↔ ∀ c ∈ l, (1 ≤ c.length ∧ c.length ≤ 4) ∧ ∀ v ∈ c, ValOk a.length v := by
    intro l
    induction l with
    | nil => simp [each_nil, cell_CheckAll_k20]
    | cons x l ih =>
      show (bif (decide (((x.length : Int) : Int) = 0) || decide ((4 : Int) < (x.length : Int))) then 2 else each (cell_CheckAll_b17 a) (cell_CheckAll_k18 (each (cell_CheckAll_b19 a) cell_CheckAll_k20 l)) x ()) = 0 ↔ _
      by_cases h : 1 ≤ x.length ∧ x.length ≤ 4
      · rw [show (decide (((x.length : Int) : Int) = 0) || decide ((4 : Int) < (x.length : Int))) = false by simp only [Bool.or_eq_false_iff, decide_eq_false_iff_not]; omega, cond_false, k1, ih]
        simp [h]
      · rw [show (decide (((x.length : Int) : Int) = 0) || decide ((4 : Int) < (x.length : Int))) = true by simp only [Bool.or_eq_true, decide_eq_true_eq]; omega, cond_true]
        simp [h]
  unfold cell_CheckAll CellsOk
  by_cases h : a.length ≤ 24
  · rw [dF (by omega), cond_false, k2]; simp [h]
  · rw [dT (by omega), cond_true]; simp [h]
structure FrOk (a : List Proc) (n : Nat) (f : LX.Frame) (x : Proc) : Prop where
  proc : idx a f.proc = some x
  at_ : 0 ≤ f.at_ ∧ f.at_ < x.code.length
  regs : (f.regs.length : Int) = x.regs
  vals : ∀ v ∈ f.regs, ValOk n v
def FramesOk (a : List Proc) (n : Nat) : Int → List LX.Frame → Prop
  | _, [] => True
  | ahead, f :: l => (∃ x, FrOk a n f x) ∧ (0 ≤ f.to_ ∧ f.to_ < ahead) ∧ FramesOk a n f.regs.length l
structure StOk (a : List Proc) (s : LX.State) : Prop where
  status : 0 ≤ s.status ∧ s.status ≤ 3
  wher : -1000000000 ≤ s.wher ∧ s.wher ≤ 1000000000
  stay : s.status ≠ 3 → s.wher = 0
  ended : s.status = 1 ↔ s.frames = []
  many : s.frames.length ≤ 10
  cells : CellsOk s.cells
  frames : FramesOk a s.cells.length 1 s.frames
end Go.Proofs.YtfclkapelkhlpaaGreatDoor
namespace Go.Proofs.YtfclkapelkhlpaaGreatDoor
open Go Go.Proofs Go.LX
def ahead (pre : List LX.Frame) : Int := match pre.getLast? with | none => 1 | some f => f.regs.length
theorem ahead_nil : ahead [] = 1 := rfl
theorem ahead_snoc (pre : List LX.Frame) (f : LX.Frame) : ahead (pre ++ [f]) = f.regs.length := by simp [ahead]
theorem vals_loop (b : LX.State) (f : LX.Frame) (n1 : Unit → Option Int) (n2 : Int → Option Int) (hn : n1 () = n2 f.regs.length) : ∀ l : List Val, each (vm_check_b33 b) (vm_check_k34 n1) l () = each (wandererref_CheckState_b49 b) (wandererref_CheckState_k50 n2 f) l ()
  | [] => hn
  | x :: l => by
    show (bif decide ((cell_Check x (b.cells.length : Int) : Int) ≠ 0) then some (cell_Check x (b.cells.length : Int)) else each (vm_check_b33 b) (vm_check_k34 n1) l ()) = (bif decide ((wandererref_CheckValue x (b.cells.length : Int) : Int) ≠ 0) then some (wandererref_CheckValue x (b.cells.length : Int)) else each (wandererref_CheckState_b49 b) (wandererref_CheckState_k50 n2 f) l ())
    rw [value_eq, vals_loop b f n1 n2 hn l]
theorem vals_tot (b : LX.State) (n1 : Unit → Option Int) (Q : Prop) (hn : ∃ y, n1 () = some y ∧ (y = 0 ↔ Q)) : ∀ l : List Val, ∃ y, each (vm_check_b33 b) (vm_check_k34 n1) l () = some y ∧ (y = 0 ↔ (∀ v ∈ l, ValOk b.cells.length v) ∧ Q)
  | [] => by obtain ⟨y, h1, h2⟩ := hn; exact ⟨y, h1, by simp [h2]⟩
  | x :: l => by
    obtain ⟨y, h1, h2⟩ := vals_tot b n1 Q hn l
    have e : each (vm_check_b33 b) (vm_check_k34 n1) (x :: l) () = (bif decide ((cell_Check x (b.cells.length : Int) : Int) ≠ 0) then some (cell_Check x (b.cells.length : Int)) else each (vm_check_b33 b) (vm_check_k34 n1) l ()) := rfl
    rw [e]
    by_cases h : cell_Check x (b.cells.length : Int) = 0
    · rw [dF (by omega), cond_false]
      have := (check_ok _ _).1 h
      exact ⟨y, h1, by rw [h2]; simp [this]⟩
    · rw [dT h, cond_true]
      refine ⟨_, rfl, ?_⟩
      have h3 : ¬ ValOk b.cells.length x := fun e => h ((check_ok _ _).2 e)
      simp [h, h3]
theorem frames_loop (a : List Proc) (b : LX.State) (hm : b.frames.length ≤ 10) : ∀ (l pre : List LX.Frame), b.frames = pre ++ l →
    eachI (vm_check_b35 a b) vm_check_k36 (pre.length : Int) l () = each (wandererref_CheckState_b51 a b) wandererref_CheckState_k52 l (ahead pre)
  | [], pre, h => rfl
  | f :: l, pre, h => by
    have ih := frames_loop a b hm l (pre ++ [f]) (by simpa using h)
    rw [ahead_snoc] at ih
    have hi : (((pre ++ [f]).length : Nat) : Int) = (pre.length : Int) + 1 := by simp
    rw [hi] at ih
    rw [eachI_cons, each_cons]
    generalize eachI (vm_check_b35 a b) vm_check_k36 ((pre.length : Int) + 1) l = K1 at ih ⊢
    generalize each (wandererref_CheckState_b51 a b) wandererref_CheckState_k52 l = K2 at ih ⊢
    unfold vm_check_b35 wandererref_CheckState_b51
    have hl : pre.length ≤ 10 := by have := congrArg List.length h; simp at this; omega
    have e1 : (decide ((f.proc : Int) < 0) || decide (((a.length : Int) : Int) ≤ f.proc)) = !wandererref_below f.proc (a.length : Int) := notBelow _ _
    rw [e1]
    cases hp : wandererref_below f.proc (a.length : Int) with
    | false => rfl
    | true =>
      simp only [Bool.not_true, cond_false]
      cases hx : idx a f.proc with
      | none => rfl
      | some x =>
        simp only [bnd]
        cases ha : wandererref_below f.at_ (x.code.length : Int) with
        | false =>
          rw [show (((decide ((f.at_ : Int) < 0) || decide (((x.code.length : Int) : Int) ≤ f.at_)) || decide ((f.to_ : Int) < 0)) || (decide ((pre.length : Int) = 0) && decide ((f.to_ : Int) ≠ 0))) = true by
            have := notBelow f.at_ (x.code.length : Int)
            rw [ha] at this
            rw [this]; rfl]
          rfl
        | true =>
          have h3 := notBelow f.at_ (x.code.length : Int)
          rw [ha] at h3
          rw [h3]
          simp only [Bool.not_true, Bool.false_or, cond_false]
          have key : ∀ t, vm_check_j32 f x b K1 t = wandererref_CheckState_j48 a f b K2 t := by
            intro t
            unfold vm_check_j32 wandererref_CheckState_j48
            rw [hx, bnd, vals_loop b f _ _ ih]
          simp only [key]
          rcases List.eq_nil_or_concat pre with rfl | ⟨q, g, rfl⟩
          · rw [ahead_nil]
            by_cases ht : f.to_ = 0
            · rw [show (decide ((f.to_ : Int) < 0) || (decide ((([] : List LX.Frame).length : Int) = 0) && decide ((f.to_ : Int) ≠ 0))) = false by simp [ht], cond_false, dF (by simp), cond_false, show (!wandererref_below f.to_ 1) = false by simp [ht, wandererref_below]]
            · rw [show (decide ((f.to_ : Int) < 0) || (decide ((([] : List LX.Frame).length : Int) = 0) && decide ((f.to_ : Int) ≠ 0))) = true by simp [ht], cond_true, show (!wandererref_below f.to_ 1) = true by simp [wandererref_below]; omega]
          · rw [List.concat_eq_append] at *
            rw [ahead_snoc]
            have hlen : ((q ++ [g]).length : Int) = (q.length : Int) + 1 := by simp
            rw [hlen, show (decide ((q.length : Int) + 1 = 0)) = false from dF (by omega), Bool.false_and, Bool.or_false]
            by_cases ht : f.to_ < 0
            · rw [dT ht, cond_true, show (!wandererref_below f.to_ (g.regs.length : Int)) = true by simp [wandererref_below]; omega]
            · rw [dF ht, cond_false, dT (by omega), cond_true, gI (by omega) (by simp at hl; omega), show (q.length : Int) + 1 - 1 = ((q.length : Nat) : Int) by omega, idx_nat, h]
              simp only [List.append_assoc, List.getElem?_append_right (Nat.le_refl _), Nat.sub_self, List.cons_append, List.nil_append, List.getElem?_cons_zero, bnd]
              congr 1
              rw [Bool.eq_iff_iff]; simp [wandererref_below]; omega
theorem check_state_eq (a : List Proc) (b : LX.State) : vm_check a b = wandererref_CheckState a b := by
  unfold vm_check wandererref_CheckState
  have e1 : (((decide ((b.status : Int) < 0) || decide ((3 : Int) < b.status)) || decide ((b.wher : Int) < -1000000000)) || decide ((1000000000 : Int) < b.wher)) = ((!(wandererref_in b.status 0 3)) || (!(wandererref_fits b.wher))) := by
    unfold wandererref_fits wandererref_in; rw [Bool.eq_iff_iff]; simp only [Bool.or_eq_true, Bool.not_eq_true', Bool.and_eq_false_iff, decide_eq_true_eq, decide_eq_false_iff_not]; omega
  have e2 : ((decide ((b.status : Int) ≠ 3) && decide ((b.wher : Int) ≠ 0)) || (decide ((b.status : Int) = 1) != decide (((b.frames.length : Int) : Int) = 0))) = (((decide ((b.wher : Int) ≠ 0) && decide ((b.status : Int) ≠ 3)) || (decide ((b.status : Int) = 1) && decide ((0 : Int) < (b.frames.length : Int)))) || (decide ((b.status : Int) ≠ 1) && decide (((b.frames.length : Int) : Int) = 0))) := by
    by_cases h1 : b.status = 1 <;> by_cases h2 : b.frames.length = 0 <;> by_cases h3 : b.status = 3 <;> by_cases h4 : b.wher = 0 <;> simp [h1, h2, h3, h4] <;> omega
  rw [e1, e2, cells_eq]
  by_cases h : b.frames.length ≤ 10
  · have := frames_loop a b h b.frames [] rfl
    rw [ahead_nil] at this
    rw [← this]; rfl
  · rw [show (decide ((10 : Int) < (b.frames.length : Int))) = true from dT (by omega)]
    rfl
theorem frames_tot (a : List Proc) (b : LX.State) : ∀ (l : List LX.Frame) (t : Int), ∃ y, each (wandererref_CheckState_b51 a b) wandererref_CheckState_k52 l t = some y ∧ (y = 0 ↔ FramesOk a b.cells.length t l)
  | [], t => ⟨0, rfl, by simp [FramesOk]⟩
  | f :: l, t => by
    obtain ⟨y, h1, h2⟩ := frames_tot a b l f.regs.length
    rw [each_cons]
    generalize each (wandererref_CheckState_b51 a b) wandererref_CheckState_k52 l = K2 at h1 ⊢
    unfold wandererref_CheckState_b51
    cases hp : wandererref_below f.proc (a.length : Int) with
    | false =>
      refine ⟨5, rfl, ?_⟩
      have : ¬ FramesOk a b.cells.length t (f :: l) := by
        rintro ⟨⟨x, g⟩, -, -⟩
        have := o_idx g.proc
        have h3 := (List.getElem?_eq_some_iff.1 this.2).1
        unfold wandererref_below at hp
        simp only [Bool.and_eq_false_iff, decide_eq_false_iff_not] at hp
        omega
      simp [this]
    | true =>
      unfold wandererref_below at hp
      simp only [Bool.and_eq_true, decide_eq_true_eq] at hp
      simp only [Bool.not_true, cond_false]
      obtain ⟨n, hn⟩ := Int.eq_ofNat_of_zero_le hp.1
      have hx : idx a f.proc = some (a[n]'(by omega)) := by rw [hn, idx_lt (by omega)]
      generalize a[n]'(by omega) = x at hx
      rw [hx, bnd]
      have kB : ∃ y, wandererref_CheckState_j48 a f b K2 true = some y ∧ y ≠ 0 := ⟨3, rfl, by decide⟩
      have uniq : ∀ z, FrOk a b.cells.length f z → z = x := fun z g => by have := g.proc; rw [hx] at this; exact (Option.some.inj this).symm
      cases ha : wandererref_below f.at_ (x.code.length : Int) with
      | false =>
        obtain ⟨y, g1, g2⟩ := kB
        refine ⟨y, g1, ?_⟩
        have : ¬ FramesOk a b.cells.length t (f :: l) := by
          rintro ⟨⟨z, g⟩, -, -⟩
          have := uniq z g; subst this
          have := g.at_
          unfold wandererref_below at ha
          simp only [Bool.and_eq_false_iff, decide_eq_false_iff_not] at ha
          omega
        simp [this, g2]
      | true =>
        simp only [Bool.not_true, cond_false]
        cases ht : wandererref_below f.to_ t with
        | false =>
          obtain ⟨y, g1, g2⟩ := kB
          refine ⟨y, g1, ?_⟩
          have : ¬ FramesOk a b.cells.length t (f :: l) := by
            rintro ⟨⟨z, g⟩, h3, -⟩
            unfold wandererref_below at ht
            simp only [Bool.and_eq_false_iff, decide_eq_false_iff_not] at ht
            omega
          simp [this, g2]
        | true =>
          simp only [Bool.not_true]
          unfold wandererref_CheckState_j48
          rw [hx, cond_false, bnd]
          unfold wandererref_below at ha ht
          simp only [Bool.and_eq_true, decide_eq_true_eq] at ha ht
          by_cases hr : (f.regs.length : Int) = x.regs
          · rw [dF (by omega), cond_false, ← vals_loop b f (fun _ => K2 f.regs.length) _ rfl]
            obtain ⟨z, g1, g2⟩ := vals_tot b (fun _ => K2 f.regs.length) _ ⟨y, h1, h2⟩ f.regs
            refine ⟨z, g1, g2.trans ⟨fun h => ⟨⟨x, hx, ha, hr, h.1⟩, ht, h.2⟩, ?_⟩⟩
            rintro ⟨⟨z, g⟩, h3, h4⟩
            exact ⟨g.vals, h4⟩
          · rw [dT (by omega), cond_true]
            refine ⟨4, rfl, ?_⟩
            have : ¬ FramesOk a b.cells.length t (f :: l) := by
              rintro ⟨⟨z, g⟩, -, -⟩
              have := uniq z g; subst this
              exact hr g.regs
            simp [this]
theorem check_tot2 (a : List Proc) (b : LX.State) : ∃ y, vm_check a b = some y ∧ (y = 0 ↔ StOk a b) := by
  rw [check_state_eq]
  unfold wandererref_CheckState
  cases c1 : ((!(wandererref_in b.status 0 3)) || (!(wandererref_fits b.wher))) with
  | true =>
    refine ⟨3, rfl, ⟨fun h => absurd h (by decide), fun h => ?_⟩⟩
    unfold wandererref_fits wandererref_in at c1
    simp only [Bool.or_eq_true, Bool.not_eq_true', Bool.and_eq_false_iff, decide_eq_false_iff_not] at c1
    have := h.status; have := h.wher; omega
  | false =>
    unfold wandererref_fits wandererref_in at c1
    simp only [Bool.or_eq_false_iff, Bool.not_eq_false', Bool.and_eq_true, decide_eq_true_eq] at c1
    rw [cond_false]
    cases c2 : (((decide ((b.wher : Int) ≠ 0) && decide ((b.status : Int) ≠ 3)) || (decide ((b.status : Int) = 1) && decide ((0 : Int) < (b.frames.length : Int)))) || (decide ((b.status : Int) ≠ 1) && decide (((b.frames.length : Int) : Int) = 0))) with
    | true =>
      refine ⟨4, rfl, ⟨fun h => absurd h (by decide), fun h => ?_⟩⟩
      simp only [Bool.or_eq_true, Bool.and_eq_true, decide_eq_true_eq] at c2
      rcases c2 with (c2 | c2) | c2
      · exact absurd (h.stay c2.2) c2.1
      · have := h.ended.1 c2.1; rw [this] at c2; simp at c2
      · exact absurd (h.ended.2 (List.eq_nil_of_length_eq_zero (by omega))) c2.1
    | false =>
      simp only [Bool.or_eq_false_iff, Bool.and_eq_false_iff, decide_eq_false_iff_not] at c2
      rw [cond_false]
      by_cases hm : b.frames.length ≤ 10
      · rw [dF (by omega), cond_false, cells_eq]
        by_cases hc : cell_CheckAll b.cells = 0
        · rw [dF (by omega), cond_false]
          obtain ⟨y, h1, h2⟩ := frames_tot a b b.frames 1
          refine ⟨y, h1, h2.trans ⟨fun h => ⟨by omega, by omega, fun h3 => by omega, ⟨fun h3 => ?_, fun h3 => ?_⟩, hm, (all_ok _).1 hc, h⟩, fun h => h.frames⟩⟩
          · exact List.eq_nil_of_length_eq_zero (by omega)
          · rw [h3] at c2; simp at c2; omega
        · rw [dT hc, cond_true]
          exact ⟨_, rfl, ⟨fun h => absurd h hc, fun h => absurd ((all_ok _).2 h.cells) hc⟩⟩
      · rw [dT (by omega), cond_true]
        exact ⟨2, rfl, ⟨fun h => absurd h (by decide), fun h => absurd h.many hm⟩⟩
def ckS (a : List Proc) (s : LX.State) : Int := (vm_check a s).getD 0
theorem ckS_eq (a : List Proc) (s : LX.State) : vm_check a s = some (ckS a s) := by obtain ⟨y, h, -⟩ := check_tot2 a s; unfold ckS; rw [h]; rfl
theorem ckS_ok {a : List Proc} {s : LX.State} : ckS a s = 0 ↔ StOk a s := by obtain ⟨y, h, h2⟩ := check_tot2 a s; unfold ckS; rw [h]; exact h2
theorem vm_Check_eq (a : List Proc) (s : LX.State) : vm_Check a s = some (if chk a ≠ 0 then chk a else ckS a s) := by
  unfold vm_Check
  rw [chk_eq, bnd]
  by_cases h : chk a = 0
  · rw [dF (by omega), cond_false, ckS_eq, bnd, if_neg (by omega)]
  · rw [dT h, cond_true, if_pos h]
end Go.Proofs.YtfclkapelkhlpaaGreatDoor
namespace Go.Proofs.YtfclkapelkhlpaaGreatDoor
open Go Go.Proofs Go.LX
theorem eqVals (a b : List Val) : slices_Equal_Value a b = some (decide (a = b)) := by
  unfold slices_Equal_Value
  by_cases h : a.length = b.length
  · rw [dF (by omega)]
    simp only [cond_false, Int.toNat_natCast]
    rw [upto_all2 (fun x y => decide (x = y)) a b h rfl (fun i x y nx h1 h2 => by
      unfold slices_Equal_Value_b3
      rw [idx_nat, idx_nat, h1, h2]
      obtain ⟨k, n⟩ := x; obtain ⟨k2, n2⟩ := y
      by_cases e : k = k2 <;> by_cases e2 : n = n2 <;> simp [e, e2]), all2_eq (fun _ _ => rfl)]
  · rw [dT (by omega)]
    have : a ≠ b := fun e => h (by rw [e])
    rw [dF this]; rfl
theorem eqCells (a b : List (List Val)) : cell_Same a b = some (decide (a = b)) := by
  unfold cell_Same
  by_cases h : a.length = b.length
  · rw [dF (by omega), cond_false, eachI_all2 (fun x y => decide (x = y)) a b h rfl (fun i x y nx h2 => by
      unfold cell_Same_b7
      rw [idx_nat, h2, bnd, eqVals, bnd]
      by_cases e : x = y <;> simp [e]), all2_eq (fun _ _ => rfl)]
  · rw [dT (by omega)]
    have : a ≠ b := fun e => h (by rw [e])
    rw [dF this]; rfl
theorem fr_eq (x y : LX.Frame) (nx : Unit → Option Bool) : (bif ((decide ((x.proc : Int) = y.proc) && decide ((x.at_ : Int) = y.at_)) && decide ((x.to_ : Int) = y.to_)) then (slices_Equal_Value x.regs y.regs).bind fun y39 => vm_Same_j22 nx (!y39) else vm_Same_j22 nx true) = bif decide (x = y) then nx () else some false := by
  obtain ⟨p, t, r, o⟩ := x; obtain ⟨p2, t2, r2, o2⟩ := y
  simp only [eqVals, bnd, vm_Same_j22]
  by_cases e1 : p = p2 <;> by_cases e2 : t = t2 <;> by_cases e3 : r = r2 <;> by_cases e4 : o = o2 <;> simp [e1, e2, e3, e4]
theorem st_eq (a b : LX.State) : decide (a = b) = ((decide (a.status = b.status) && decide (a.wher = b.wher)) && (decide (a.cells = b.cells) && decide (a.frames = b.frames))) := by
  obtain ⟨f, c, s, w⟩ := a; obtain ⟨f2, c2, s2, w2⟩ := b
  rw [Bool.eq_iff_iff]; simp; constructor <;> (intro h; simp [h])
theorem eqState (a b : LX.State) : vm_Same a b = some (decide (a = b)) := by
  rw [st_eq]
  unfold vm_Same
  cases (decide ((a.status : Int) = b.status) && decide ((a.wher : Int) = b.wher)) with
  | false => rfl
  | true =>
    rw [cond_true, eqCells, bnd]
    cases decide (a.cells = b.cells) with
    | false => rfl
    | true =>
      rw [cond_true]
      by_cases h : a.frames.length = b.frames.length
      · rw [dF (by omega), cond_false, eachI_all2 (fun x y => decide (x = y)) a.frames b.frames h rfl (fun i x y nx h2 => by
          unfold vm_Same_b23
          rw [idx_nat, h2, bnd]
          exact fr_eq x y nx), all2_eq (fun _ _ => rfl)]; rfl
      · rw [dT (by omega)]
        have : a.frames ≠ b.frames := fun e => h (by rw [e])
        rw [dF this]; rfl
structure Small (s : LX.State) : Prop where
  frames : s.frames.length ≤ 10
  regs : ∀ f ∈ s.frames, f.regs.length ≤ 40
  cells : s.cells.length ≤ 24
  fields : ∀ c ∈ s.cells, c.length ≤ 4
theorem framesOk_all {a : List Proc} {n : Nat} : ∀ {l : List LX.Frame} {t : Int}, FramesOk a n t l → ∀ f ∈ l, ∃ x, FrOk a n f x
  | [], _, _, f, hf => by cases hf
  | g :: l, t, h, f, hf => by
    rcases List.mem_cons.1 hf with rfl | hf
    · exact h.1
    · exact framesOk_all h.2.2 f hf
theorem CodeOk.mem {a : List Proc} (h : CodeOk a) {k : Int} {x : Proc} (hx : idx a k = some x) : x ∈ a ∧ (0 ≤ x.params ∧ x.params ≤ 3) ∧ (1 ≤ x.regs ∧ x.params ≤ x.regs ∧ x.regs ≤ 40) ∧ CodeLen x := by
  have h1 := (o_idx hx).2
  have := h.head _ x h1
  exact ⟨List.mem_of_getElem? h1, this.1, this.2.1, this.2.2.2⟩
theorem StOk.small {a : List Proc} {s : LX.State} (h : StOk a s) (ha : CodeOk a) : Small s where
  frames := h.many
  regs f hf := by
    obtain ⟨x, g⟩ := framesOk_all h.frames f hf
    have := (ha.mem g.proc).2.2.1
    have := g.regs
    omega
  cells := h.cells.1
  fields c hc := (h.cells.2 c hc).1.2
theorem clone_ok {α : Type} {bytes : Nat} {a : List α} (h : a.length ≤ 400) (hb : bytes ≤ 48) : clone bytes a = some a := by
  have : a.length * bytes ≤ 400 * 48 := Nat.mul_le_mul h hb
  unfold clone
  exact grd_t ⟨by simp; omega, by simp; omega⟩
theorem upto_skip {ρ : Type} {body : Int → Unit → (Unit → ρ) → ρ} {k : Unit → ρ} : ∀ (m : Nat) (i : Nat), (∀ j : Nat, i ≤ j → j < i + m → ∀ nx, body (j : Int) () nx = nx ()) → upto body k (i : Int) m () = k ()
  | 0, i, _ => rfl
  | m + 1, i, h => by
    rw [upto_succ, h i (Nat.le_refl _) (by omega), show ((i : Int) + 1) = ((i + 1 : Nat) : Int) by omega]
    exact upto_skip m (i + 1) (fun j h1 h2 => h j (by omega) (by omega))
theorem cellCopy_eq {l : List (List Val)} (h : l.length ≤ 24) (hf : ∀ c ∈ l, c.length ≤ 4) : cell_Copy l = some l := by
  unfold cell_Copy
  rw [clone_ok (by omega) (by decide), bnd, Int.toNat_natCast]
  exact upto_skip (k := cell_Copy_k4 l) l.length 0 (fun j h1 h2 nx => by
    unfold cell_Copy_b3
    rw [idx_lt (by omega), bnd, clone_ok (by have := hf _ (List.getElem_mem (by omega : j < l.length)); omega) (by decide), bnd])
theorem copy_eq {s : LX.State} (h : Small s) : vm_Copy s = some s := by
  unfold vm_Copy
  rw [clone_ok (by have := h.frames; omega) (by decide), bnd, cellCopy_eq h.cells h.fields, bnd]
  unfold vm_Copy_j1
  rw [Int.toNat_natCast]
  exact upto_skip (k := vm_Copy_k5 s s.cells) s.frames.length 0 (fun j h1 h2 nx => by
    unfold vm_Copy_b4
    rw [idx_lt (by omega), bnd, clone_ok (by have := h.regs _ (List.getElem_mem (by omega : j < s.frames.length)); omega) (by decide), bnd])
theorem room_le {α : Type} {bytes : Nat} {l m : List α} (h : l.length + m.length ≤ 100000) (hb : bytes ≤ 48) : Room bytes l m := by
  have : (l.length + m.length) * bytes ≤ 100000 * 48 := Nat.mul_le_mul h hb
  exact ⟨by omega, by omega⟩
end Go.Proofs.YtfclkapelkhlpaaGreatDoor
namespace Go.Proofs.YtfclkapelkhlpaaGreatDoor
open Go Go.Proofs Go.LX
def metV (l : List Int) (v : Val) : List Int := if v.kind = 2 ∧ v.n ∉ l then l ++ [v.n] else l
def metL (l : List Int) (vs : List Val) : List Int := vs.foldl metV l
def cellAt (cells : List (List Val)) (k : Int) : List Val := (idx cells k).getD []
def bfs (cells : List (List Val)) : Nat → Nat → List Int → List Int
  | 0, _, l => l
  | m + 1, k, l => if h : k < l.length then bfs cells m (k + 1) (metL l (cellAt cells l[k])) else l
def reachP (cells : List (List Val)) (vs : List Val) : List Int := bfs cells 25 0 (metL [] vs)
theorem metL_cons (l : List Int) (v : Val) (vs : List Val) : metL l (v :: vs) = metL (metV l v) vs := rfl
theorem metV_pre (l : List Int) (v : Val) : l <+: metV l v := by
  unfold metV; split
  · exact List.prefix_append _ _
  · exact List.prefix_refl _
theorem metL_pre : ∀ (vs : List Val) (l : List Int), l <+: metL l vs
  | [], l => List.prefix_refl _
  | v :: vs, l => (metV_pre l v).trans (metL_pre vs _)
theorem bfs_pre (cells : List (List Val)) : ∀ (m k : Nat) (l : List Int), l <+: bfs cells m k l
  | 0, _, l => List.prefix_refl _
  | m + 1, k, l => by
    unfold bfs; split
    · exact (metL_pre _ _).trans (bfs_pre cells m _ _)
    · exact List.prefix_refl _
theorem nodup_len : ∀ (n : Nat) (l : List Int), l.Nodup → (∀ x ∈ l, 0 ≤ x ∧ x < n) → l.length ≤ n
  | 0, l, _, h => by
    cases l with
    | nil => simp
    | cons x l => have := h x (by simp); omega
  | n + 1, l, hn, h => by
    have h1 := nodup_len n (l.erase (n : Int)) (hn.erase _) (fun x hx => by
      have h2 := (hn.mem_erase_iff).1 hx
      have := h x h2.2
      have h3 := h2.1
      constructor
      · omega
      · push_cast at this; omega)
    have h4 : l.length ≤ (l.erase (n : Int)).length + 1 := by rw [List.length_erase]; split <;> omega
    omega
def MetOk (n : Nat) (l : List Int) : Prop := l.Nodup ∧ ∀ x ∈ l, 0 ≤ x ∧ x < n
theorem MetOk.len {n : Nat} {l : List Int} (h : MetOk n l) : l.length ≤ n := nodup_len n l h.1 h.2
theorem MetOk.nil {n : Nat} : MetOk n [] := ⟨List.nodup_nil, fun x hx => by cases hx⟩
theorem ValOk.ref {n : Nat} {v : Val} (h : ValOk n v) (hk : v.kind = 2) : 0 ≤ v.n ∧ v.n < n := by unfold ValOk at h; omega
theorem MetOk.v {n : Nat} {l : List Int} (h : MetOk n l) {v : Val} (hv : ValOk n v) : MetOk n (metV l v) := by
  unfold metV; split
  · rename_i hc
    refine ⟨List.nodup_append.2 ⟨h.1, by simp, fun a ha b hb => ?_⟩, fun x hx => ?_⟩
    · simp at hb; subst hb; intro e; subst e; exact hc.2 ha
    · rcases List.mem_append.1 hx with hx | hx
      · exact h.2 x hx
      · simp at hx; subst hx; exact hv.ref hc.1
  · exact h
theorem MetOk.l {n : Nat} : ∀ {vs : List Val} {l : List Int}, MetOk n l → (∀ v ∈ vs, ValOk n v) → MetOk n (metL l vs)
  | [], l, h, _ => h
  | v :: vs, l, h, hv => MetOk.l (vs := vs) (l := metV l v) (h.v (hv v (by simp))) (fun w hw => hv w (List.mem_cons_of_mem _ hw))
theorem cellAt_mem {cells : List (List Val)} {k : Int} (h : 0 ≤ k ∧ k < cells.length) : idx cells k = some (cellAt cells k) ∧ cellAt cells k ∈ cells := by
  obtain ⟨n, rfl⟩ := Int.eq_ofNat_of_zero_le h.1
  unfold cellAt
  rw [idx_lt (by omega)]
  exact ⟨rfl, List.getElem_mem _⟩
theorem CellsOk.at {cells : List (List Val)} (h : CellsOk cells) {k : Int} (hk : 0 ≤ k ∧ k < cells.length) : (1 ≤ (cellAt cells k).length ∧ (cellAt cells k).length ≤ 4) ∧ ∀ v ∈ cellAt cells k, ValOk cells.length v := h.2 _ (cellAt_mem hk).2
theorem MetOk.bfs {cells : List (List Val)} (hc : CellsOk cells) : ∀ {m k : Nat} {l : List Int}, MetOk cells.length l → MetOk cells.length (bfs cells m k l)
  | 0, _, l, h => h
  | m + 1, k, l, h => by
    unfold Proofs.YtfclkapelkhlpaaGreatDoor.bfs; split
    · rename_i hk
      exact MetOk.bfs hc (h.l (hc.at (h.2 _ (List.getElem_mem hk))).2)
    · exact h
def RefsIn (vs : List Val) (l : List Int) : Prop := ∀ v ∈ vs, v.kind = 2 → v.n ∈ l
theorem RefsIn.pre {vs : List Val} {l m : List Int} (h : RefsIn vs l) (hp : l <+: m) : RefsIn vs m := fun v hv hk => hp.subset (h v hv hk)
theorem metV_in (l : List Int) (v : Val) (hk : v.kind = 2) : v.n ∈ metV l v := by
  unfold metV; split
  · simp
  · rename_i hc
    exact Decidable.not_not.1 (fun h => hc ⟨hk, h⟩)
theorem metL_in : ∀ (vs : List Val) (l : List Int), RefsIn vs (metL l vs)
  | [], l, v, hv, _ => by cases hv
  | w :: vs, l, v, hv, hk => by
    rw [metL_cons]
    rcases List.mem_cons.1 hv with rfl | hv
    · exact (metL_pre vs _).subset (metV_in l v hk)
    · exact metL_in vs _ v hv hk
theorem bfs_in {cells : List (List Val)} (hc : CellsOk cells) : ∀ {m k : Nat} {l : List Int}, MetOk cells.length l → cells.length < k + m → (∀ j (hj : j < l.length), j < k → RefsIn (cellAt cells l[j]) l) → ∀ x ∈ bfs cells m k l, RefsIn (cellAt cells x) (bfs cells m k l)
  | 0, k, l, h, hm, hj, x, hx => by
    have := h.len
    obtain ⟨j, h1, rfl⟩ := List.getElem_of_mem hx
    exact hj j h1 (by have h1' : j < l.length := h1; omega)
  | m + 1, k, l, h, hm, hj, x, hx => by
    unfold Proofs.YtfclkapelkhlpaaGreatDoor.bfs at hx ⊢
    split at hx
    · rename_i hk
      rw [dif_pos hk]
      have hv := (hc.at (h.2 _ (List.getElem_mem hk))).2
      have hp := metL_pre (cellAt cells l[k]) l
      refine bfs_in hc (h.l hv) (by omega) (fun j h1 h2 => ?_) x hx
      by_cases e : j < l.length
      · have e1 : (metL l (cellAt cells l[k]))[j] = l[j] := (hp.getElem e).symm
        rw [e1]
        by_cases e2 : j < k
        · exact (hj j e e2).pre hp
        · have : j = k := by omega
          subst this
          exact metL_in _ _
      · omega
    · rename_i hk
      rw [dif_neg hk]
      obtain ⟨j, h1, rfl⟩ := List.getElem_of_mem hx
      exact hj j h1 (by omega)
theorem reach_ok {cells : List (List Val)} (hc : CellsOk cells) {vs : List Val} (hv : ∀ v ∈ vs, ValOk cells.length v) : MetOk cells.length (reachP cells vs) ∧ RefsIn vs (reachP cells vs) ∧ ∀ x ∈ reachP cells vs, RefsIn (cellAt cells x) (reachP cells vs) := by
  have h0 : MetOk cells.length (metL [] vs) := MetOk.nil.l hv
  refine ⟨MetOk.bfs hc h0, (metL_in vs []).pre (bfs_pre _ _ _ _), bfs_in hc h0 (by have := hc.1; omega) (fun j h1 h2 => absurd h2 (Nat.not_lt_zero _))⟩
theorem lk_lput {α : Type} (k k' : Int) (v : α) : ∀ l : List (Int × α), lk k (lput k' v l) = if k = k' then some v else lk k l
  | [] => by unfold lput lk; by_cases h : k = k' <;> simp [h, lk]
  | p :: l => by
    unfold lput
    by_cases h : k' = p.1
    · rw [if_pos h]
      show (if k = p.1 then some v else lk k l) = if k = k' then some v else (if k = p.1 then some p.2 else lk k l)
      by_cases e : k = p.1
      · rw [if_pos e, if_pos (by omega)]
      · rw [if_neg e, if_neg (by omega), if_neg e]
    · rw [if_neg h]
      show (if k = p.1 then some p.2 else lk k (lput k' v l)) = if k = k' then some v else (if k = p.1 then some p.2 else lk k l)
      by_cases e : k = p.1
      · rw [if_pos e, if_pos e, if_neg (by omega)]
      · rw [if_neg e, if_neg e, lk_lput k k' v l]
def Seen (l : List Int) (m : List (Int × Bool)) : Prop := ∀ k, (lk k m).getD false = decide (k ∈ l)
theorem Seen.nil : Seen [] [] := fun k => rfl
theorem Seen.put {l : List Int} {m : List (Int × Bool)} (h : Seen l m) (n : Int) : Seen (l ++ [n]) (lput n true m) := by
  intro k
  rw [lk_lput]
  by_cases e : k = n
  · simp [e]
  · rw [if_neg e, h k, Bool.eq_iff_iff]; simp [e]
theorem see_loop {ρ : Type} {body : Val → List Int × List (Int × Bool) → (List Int × List (Int × Bool) → Option ρ) → Option ρ} {K : List Int × List (Int × Bool) → Option ρ}
    (hb : ∀ x l m nx, l.length ≤ 1000 → body x (l, m) nx = bif (decide (x.kind = 2) && (!((lk x.n m).getD false))) then nx (l ++ [x.n], lput x.n true m) else nx (l, m)) :
    ∀ (vs : List Val) (l : List Int) (m : List (Int × Bool)), Seen l m → l.length + vs.length ≤ 1000 → ∃ m', Seen (metL l vs) m' ∧ each body K vs (l, m) = K (metL l vs, m')
  | [], l, m, h, _ => ⟨m, h, rfl⟩
  | v :: vs, l, m, h, hl => by
    simp only [List.length_cons] at hl
    rw [each_cons, hb v l m _ (by omega), h v.n, metL_cons]
    unfold metV
    by_cases hc : v.kind = 2 ∧ v.n ∉ l
    · rw [if_pos hc, dT hc.1, dF hc.2, Bool.true_and, Bool.not_false, cond_true]
      exact see_loop hb vs _ _ (h.put v.n) (by simp; omega)
    · rw [if_neg hc, show (decide (v.kind = 2) && !decide (v.n ∈ l)) = false by rw [Bool.and_eq_false_iff]; simp; simp only [not_and, Decidable.not_not] at hc; by_cases e : v.kind = 2 <;> simp [e, hc], cond_false]
      exact see_loop hb vs _ _ h (by omega)
theorem bfs_loop {cells : List (List Val)} (hc : CellsOk cells) : ∀ (m N k : Nat) (l : List Int) (s : List (Int × Bool)), MetOk cells.length l → Seen l s → cells.length < k + m → m < N → k ≤ l.length → again (cell_Reach_b72 cells) N ((k : Int), l, s) = some (bfs cells m k l, 0)
  | m, 0, k, l, s, h, hs, hm, hN, hk => by omega
  | 0, N + 1, k, l, s, h, hs, hm, hN, hk => by have := h.len; omega
  | m + 1, N + 1, k, l, s, h, hs, hm, hN, hk => by
    rw [again_s]
    unfold cell_Reach_b72 Proofs.YtfclkapelkhlpaaGreatDoor.bfs
    simp only
    have hl := h.len
    have hn := hc.1
    by_cases hlt : k < l.length
    · rw [dT (by omega), cond_true, idx_lt hlt, bnd, dif_pos hlt]
      have hr := h.2 _ (List.getElem_mem hlt)
      have hv := hc.at hr
      rw [(cellAt_mem hr).1, bnd]
      have e0 : (fun (s : Int × List Int × List (Int × Bool)) (nx75 : Int × List Int × List (Int × Bool) → Option (List Int × Int)) => match s with | (x67, y69, y70) => bif decide ((x67 : Int) < (y69.length : Int)) then (idx y69 x67).bind fun x79 => (idx cells x79).bind fun x87 => each cell_Reach_b70 (cell_Reach_k71 x67 nx75) x87 (y69, y70) else some (y69, 0)) = cell_Reach_b72 cells := rfl
      rw [e0]
      obtain ⟨s', h1, h2⟩ := see_loop (body := cell_Reach_b70) (K := cell_Reach_k71 (k : Int) (again (cell_Reach_b72 cells) N)) (fun x l m nx hl => by
        unfold cell_Reach_b70
        simp only [cell_Reach_j69]
        cases (decide (x.kind = 2) && (!((lk x.n m).getD false))) with
        | false => rfl
        | true => rw [cond_true, cond_true, grd_t (room_le (by simp; omega) (by decide))]) (cellAt cells l[k]) l s hs (by have := hv.1.2; omega)
      rw [h2]
      unfold cell_Reach_k71
      simp only
      rw [gI (by omega) (by omega)]
      have hp := (metL_pre (cellAt cells l[k]) l).length_le
      exact bfs_loop hc m N (k + 1) _ s' (h.l hv.2) h1 (by omega) (by omega) (by omega)
    · rw [dF (by omega), cond_false, dif_neg hlt]
theorem reach_eq {N : Nat} (hN : 100 ≤ N) {cells : List (List Val)} (hc : CellsOk cells) {vs : List Val} (hv : ∀ v ∈ vs, ValOk cells.length v) (hl : vs.length ≤ 400) : cell_Reach N cells vs = some (reachP cells vs, 0) := by
  unfold cell_Reach
  rw [(all_ok cells).2 hc, dF (by simp), cond_false, dF (by omega), cond_false]
  have k1 : ∀ l : List Val, (∀ v ∈ l, ValOk cells.length v) → each (cell_Reach_b75 cells) (cell_Reach_k76 N cells vs) l () = cell_Reach_k76 N cells vs () := by
    intro l
    induction l with
    | nil => intro _; rfl
    | cons x l ih =>
      intro h
      rw [each_cons]
      unfold cell_Reach_b75
      rw [(check_ok _ _).2 (h x (by simp)), dF (by simp), cond_false]
      exact ih (fun v hv => h v (List.mem_cons_of_mem _ hv))
  rw [k1 vs hv]
  unfold cell_Reach_k76
  obtain ⟨s', h1, h2⟩ := see_loop (body := cell_Reach_b73) (K := cell_Reach_k74 N cells) (fun x l m nx hl => by
    unfold cell_Reach_b73
    simp only [cell_Reach_j10]
    cases (decide (x.kind = 2) && (!((lk x.n m).getD false))) with
    | false => rfl
    | true => rw [cond_true, cond_true, grd_t (room_le (by simp; omega) (by decide))]) vs [] [] Seen.nil (by simp; omega)
  rw [h2]
  exact bfs_loop hc 25 N 0 _ s' (MetOk.nil.l hv) h1 (by have := hc.1; omega) (by omega) (by omega)
end Go.Proofs.YtfclkapelkhlpaaGreatDoor
