/-
  What the law SoloBegins needs of our own library and of the walks, no more.
-/
import Derived.Test.YtfclkapelkhlpaaGreatDoorProg
import Derived.Test.YtfclkapelkhlpaaGreatDoorSoloBeginsTc
set_option linter.unusedSimpArgs false
set_option linter.unusedVariables false
set_option maxRecDepth 10000
namespace Go.Proofs.YtfclkapelkhlpaaGreatDoor
open Go Go.Proofs Go.LX
noncomputable section
theorem xD (N : Nat) (w0 : World) (M : BS) (hM : ∀ b, M b → b < w0.heap.size) (hT : uy Tryz.prog 4 w0) (a : Str) (r : List eO × Int) (hs : j4 N a = some r) :
    Calls Tryz.prog 77 #[(bu a)] w0 (fun e w' => Grow w0 w' ∧ ∃ u0, e = .returned (.tuple #[u0, .int .i64 r.2]) ∧ dL iH 113 w' M u0 r.1 ∧ (∀ b, ob u0 b → w0.heap.size ≤ b)) := by
 refine aS (args := [(bu a)]) Tryz.func77 rfl Tryz.ntmps77 (Nat.le_of_ble_eq_true rfl) ?_
 have h := SH.init hM
 refine ai (ag (ae (aj (v := (.slice none 0 0)) rfl) (ae (aj (v := (.int .i64 (0))) rfl) (ah (aa (ai (ag (ae (au (v := (bu a)) rfl) ?_))))))))
 obtain ⟨y1, e2, hs⟩ := aQ hs
 refine bA UX rfl rfl (Fz _ _ h.lt (hT.go h.keep) a [32] _ e2) ?_
 rintro _ w ⟨k5, u3, rfl, g4⟩
 refine ⟨_, rfl, ?_⟩
 replace h := h.Ir 1 k5 g4
 refine o7 h 2 mf fun w b6 h => fq h 2 [u3] rfl mf rfl rfl rfl rfl (h.gB 1 rfl).one fun w h => ah (aa (ai (ag (o7 h 3 xY fun w b7 h => ah (aa (ai (ai (ag (ae (aF h 2 rfl mf rfl rfl) (ae (bY dZ rfl (h.oZ 1 rfl)) (ae (au (v := (.int .i64 (0))) rfl) (ah (aa (aV ?_))))))))))))))
 replace h := h.xO (R := iH) (E := 113) 7
 refine gT (σ := Nat × Int × Value × List eO) (inl [6, 7, 8, 9, 10, 11, 24, 25, 26, 27, 28, 29, 30, 31, 32, 33, 34, 35, 36, 37, 38, 39, 40, 41, 42, 43, 44, 45, 46, 47, 48, 49, 50, 51, 52, 53, 54, 55, 56, 57, 58, 59, 60, 61, 62]) (fun ⟨k16, i17, v14, iF⟩ => [(24, (.int .i64 (i17)))]) (fun ⟨k16, i17, v14, iF⟩ w => SH w0 M BE w (hset [(1, .rd nA u3 y1), (2, .blk b6 [u3]), (3, .blk b7 [v14]), (7, .own iH 113 v14 iF)]) ∧ i17 = (k16 : Int) ∧ fT (iY y1) (ig N y1 a) i17 (y1.drop k16) iF = some r) (fun ⟨k16, i17, v14, iF⟩ => y1.length - k16) ⟨0, 0, (.slice none 0 0), []⟩ ⟨rfl, trivial⟩ ?_ ?_
 exact ⟨h.cn _, rfl, hs⟩
 rintro ⟨k16, i17, v14, iF⟩ w dz ⟨h, hik, hs⟩
 refine ai (ag ?_)
 refine ae (dN rfl rfl) (ah (aa ?_))
 refine ai (iJ rfl (fun e21 => ?_) (fun e21 => ?_))
 refine aG (aa ?_)
 obtain ⟨yQ, e22a, e22b⟩ := gL (hik ▸ e21)
 rw [e22b, jr] at hs
 generalize ZR : fT (iY y1) (ig N y1 a) (i17 + 1) (y1.drop (k16 + 1)) = Ii at hs
 have ZT := gP ((h.oZ 1 rfl)).cO hik e21
 refine bV (σ := Value × List eO) (inl [6, 7, 8, 9, 10, 11, 26, 27, 28, 29, 30, 31, 32, 33, 34, 35, 36, 37, 38, 39, 40, 41, 42, 43, 44, 45, 46, 47, 48, 49, 50, 51, 52, 53, 54, 55, 56, 57, 58, 59, 60, 61]) (fun ⟨v23, y24⟩ => []) (fun ⟨v23, y24⟩ w => SH w0 M BE w (hset [(1, .rd nA u3 y1), (2, .blk b6 [u3]), (3, .blk b7 [v23]), (7, .own iH 113 v23 y24)]) ∧ kX Ii y24 = some r) ?_ ?_
 rintro ⟨v23, y24⟩ w dz ⟨h, hs⟩
 refine ag (ae (dw rfl rfl ZT) (ae (au (v := (.int .i64 ((i17 + 1)))) rfl) (ah (az ?_))))
 subst ZR
 exact jV ⟨k16 + 1, i17 + 1, v23, y24⟩ ⟨h.cn _, by omega, hs⟩ (by have := of_decide_eq_true e21; dsimp only; omega)
 refine aV (ai (ag (ae (au (v := (.int .i64 (i17))) rfl) ?_)))
 obtain ⟨Xq, o27, Vk, h, XK, i25⟩ := h.DI 1 8 rfl dZ rfl (jl hik) (gN hik e22a)
 obtain rfl := XK
 refine ae (i25 _ _ _ _ _ _ _ _ _ rfl rfl) (ae (eF (k := 0) h 8 rfl xZ rfl rfl) (ae (aj (v := (.int .i64 (i17))) rfl) (ae (aj (v := (bu yQ)) rfl) (ah (aa (bV (σ := Bool) (inl [29, 30, 31, 32, 33, 34, 35, 36, 37]) (fun x30 => [(37, (.bool (x30)))]) (fun x30 w => SH w0 M BE w (hset [(1, .rd nA u3 y1), (2, .blk b6 [u3]), (3, .blk b7 [v14]), (7, .own iH 113 v14 iF)]) ∧ kY y1 i17 iF Ii x30 = some r) ?_ ?_))))))
 rintro x30 w dz ⟨h, hs⟩
 refine aI hs rfl (fun c31 hs => ?_) (fun c31 hs => ?_)
 refine ai (ag (ae (aF h 2 rfl mf rfl rfl) (ae (au (v := (.int .i64 (i17))) rfl) (ae (dw rfl rfl ZT) ?_))))
 obtain ⟨x32, e33, hs⟩ := aQ hs
 obtain ⟨b35, o36, cs37, h, r38, i34⟩ := h.DI 1 9 rfl dZ rfl (aJ e33).1 (aJ e33).2
 obtain rfl := r38
 refine ae (i34 _ _ _ _ _ _ _ _ _ rfl rfl) (ae (eF (k := 0) h 9 rfl xZ rfl rfl) ?_)
 obtain ⟨y39, e40, hs⟩ := aQ hs
 refine bA CY rfl rfl (pG _ _ h.lt (hT.go h.keep) x32 _ e40) ?_
 rintro _ w ⟨k43, XL, rfl, g42⟩
 refine ⟨_, rfl, ?_⟩
 replace h := h.grow k43
 refine ae (au (v := (.tuple #[(.int .i64 (y39.1)), XL])) rfl) (ae (bC rfl rfl) (ae (bC rfl rfl) (ae (aj (v := (.int .i64 (y39.1))) rfl) (ae (aj (v := XL) rfl) (ah (aa (ai (ag (ae (aF h 2 rfl mf rfl rfl) (ae (au (v := (.int .i64 (i17))) rfl) ?_))))))))))
 obtain ⟨a44, hs⟩ := bG hs
 refine ae (dw rfl rfl a44) ?_
 obtain ⟨x45, e46, hs⟩ := aQ hs
 obtain ⟨b48, o49, cs50, h, r51, i47⟩ := h.DI 1 10 rfl dZ rfl (aJ e46).1 (aJ e46).2
 obtain rfl := r51
 refine ae (i47 _ _ _ _ _ _ _ _ _ rfl rfl) (ae (eF (k := 0) h 10 rfl xZ rfl rfl) ?_)
 obtain ⟨A9, e53, hs⟩ := aQ hs
 refine bA CY rfl rfl (pG _ _ h.lt (hT.go h.keep) x45 _ e53) ?_
 rintro _ w ⟨k56, Yy, rfl, g55⟩
 refine ⟨_, rfl, ?_⟩
 replace h := h.grow k56
 refine ae (au (v := (.tuple #[(.int .i64 (A9.1)), Yy])) rfl) (ae (bC rfl rfl) (ae (bC rfl rfl) (ae (aj (v := (.int .i64 (A9.1))) rfl) (ae (aj (v := Yy) rfl) (ah (aa (ag (ae (aF h 3 rfl xY rfl rfl) (ae (au (v := (.int .i64 (y39.1))) rfl) (ae (au (v := (.int .i64 (A9.1))) rfl) (ae (dC (pv := [(0, (.int .i64 (y39.1))), (1, (.int .i64 (A9.1)))]) (out := [(.int .i64 (y39.1)), (.int .i64 (A9.1)), (.slice none 0 0)]) Pm rfl ⟨0, 1, [(.int .i64 (y39.1))], rfl, rfl, rfl, Nat.le_of_ble_eq_true rfl, ⟨1, 1, [(.int .i64 (A9.1))], rfl, rfl, rfl, Nat.le_of_ble_eq_true rfl, rfl⟩⟩) (uw (R := iH) (vs := [(.agg #[(.int .i64 (y39.1)), (.int .i64 (A9.1)), (.slice none 0 0)])]) (xs := [(⟨y39.1, A9.1, []⟩ : eO)]) h 11 K3 rfl rfl rfl ⟨⟨_, rfl, gp.nil⟩, trivial⟩ rfl fun w u57 h => ?_))))))))))))
 obtain ⟨a58, hs⟩ := bG hs
 refine mo (R := iH) (m := [(⟨y39.1, A9.1, []⟩ : eO)]) h 7 rfl (h.dM 11 rfl) K3 rfl rfl rfl a58.1 a58.2 fun w u59 h => fq h 3 [u59] rfl xY rfl rfl rfl rfl (h.dD 7 rfl).one fun w h => ah (aA (az ?_))
 exact bQ (u59, (iF ++ [(⟨y39.1, A9.1, []⟩ : eO)])) ⟨h.cn _, hs⟩
 refine aG (aA (az ?_))
 exact bQ (v14, iF) ⟨h.cn _, hs⟩
 refine ag (ae (au (v := (bu yQ)) rfl) (ae (DN rfl rfl) (ae (au (v := (.bool (decide ((yQ : Str) = [102, 117, 110])))) rfl) (lW (b := decide ((yQ : Str) = [102, 117, 110])) hs (fun PE hs => ?_) (fun PE hs => ?_)))))
 refine eY rfl (congrArg Value.bool PE) (ae (au (v := (.int .i64 (i17))) rfl) (eY rfl (congrArg Value.bool PE) ?_))
 obtain ⟨a61, hs⟩ := bG hs
 refine ae (dw rfl rfl a61) (eY rfl (congrArg Value.bool PE) (ae (aF h 2 rfl mf rfl rfl) (eY rfl (congrArg Value.bool PE) (ae (bY dZ rfl (h.oZ 1 rfl)) (eY rfl (congrArg Value.bool PE) (ae (dN rfl rfl) (ae (fw (b := true) (v := (.bool (decide (((i17 + 2) : Int) < (y1.length : Int))))) (congrArg Value.bool PE) rfl) (ah (az ?_)))))))))
 exact bQ (decide (((i17 + 2) : Int) < (y1.length : Int))) ⟨h.cn _, hs⟩
 refine dh (b' := false) rfl (congrArg Value.bool PE) rfl (dh (b' := false) rfl (congrArg Value.bool PE) rfl (dh (b' := false) rfl (congrArg Value.bool PE) rfl (dh (b' := false) rfl (congrArg Value.bool PE) rfl (dh (b' := false) rfl (congrArg Value.bool PE) rfl (ae (fw (b := false) (v := (.bool (false))) (congrArg Value.bool PE) rfl) (ah (az ?_)))))))
 exact bQ false ⟨h.cn _, hs⟩
 rw [gM (hik ▸ e21), ql] at hs
 refine df (aN (aN (bE (aa (ai (ai (ag (ae (aF h 3 rfl xY rfl rfl) (ae (bY iy rfl (h.dM 7 rfl)) (ae (bI rfl rfl) (ae (au (v := (.bool (decide (((iF.length : Int) : Int) = 0)))) rfl) (aD rfl rfl (fun q => aF h 3 rfl xY rfl rfl) (aD rfl rfl (fun q => bY iy (dn q) (h.dM 7 rfl)) (aD rfl rfl (fun q => jH (dn q) rfl) (ae (gu rfl rfl lV) (ah (aa (aI hs rfl (fun Ke hs => ?_) (fun Ke hs => ?_)))))))))))))))))))
 refine ai (ag (ae (aj (v := (.slice none 0 0)) rfl) (ae (aj (v := (.int .i64 (1))) rfl) (ah (aa (aK (aC (DJ (v1 := (.slice none 0 0)) (v2 := (.int .i64 (1))) Tryz.results77 rfl rfl ?_))))))))
 obtain rfl := Option.some.inj hs
 exact ⟨h.grown, _, rfl, dL.nil, jf⟩
 refine aG (aa (ai (ai (ag (ae (aF h 3 rfl xY rfl rfl) (ae (bY iy rfl (h.dM 7 rfl)) (ae (au (v := (.int .i64 (0))) rfl) (ah (aa (aV ?_))))))))))
 have ZU := (h.dM 7 rfl).cO
 refine gT (σ := Nat × Int) (inl [2, 3, 13, 73, 74, 75, 76, 77, 78, 79, 80, 81]) (fun ⟨V6, i64⟩ => [(73, (.int .i64 (i64)))]) (fun ⟨V6, i64⟩ w => SH w0 M BE w (hset [(1, .rd nA u3 y1), (2, .blk b6 [u3]), (3, .blk b7 [v14]), (7, .own iH 113 v14 iF)]) ∧ i64 = (V6 : Int) ∧ upto (iX iF) (ic N y1 a iF) i64 (((iF.length : Int)).toNat - V6) () = some r) (fun ⟨V6, i64⟩ => ((iF.length : Int)).toNat - V6) ⟨0, 0⟩ ⟨rfl, trivial⟩ ?_ ?_
 exact ⟨h.cn _, rfl, hs⟩
 rintro ⟨V6, i64⟩ w dz ⟨h, hik, hs⟩
 refine ai (ag ?_)
 refine ae (dN rfl rfl) (ah (aa ?_))
 refine ai (iJ rfl (fun Va => ?_) (fun Va => ?_))
 refine aG (aa ?_)
 rw [vO (by have := of_decide_eq_true Va; omega)] at hs
 generalize ZV : upto (iX iF) (ic N y1 a iF) (i64 + 1) (((iF.length : Int)).toNat - (V6 + 1)) = ZQ at hs
 have e69r : jA (i64 + 1) := (by have := of_decide_eq_true Va; have := ZU; exact jA.mk (by omega) (by omega))
 refine ai (aV (ai (ag ?_)))
 obtain ⟨Vj, Vl, hs⟩ := aQ hs
 obtain ⟨b73, q74, i72⟩ := h.wo 7 rfl iy rfl (aJ Vl).1 (aJ Vl).2
 refine ae (i72 _ _ _ _ _ _ _ _ _ rfl rfl) ?_
 obtain ⟨cs75, XM, r77⟩ := h.yN 7 rfl q74 (aJ Vl).2
 obtain ⟨KF, rfl, g79⟩ := rG r77
 replace h := h.cZ 12 g79
 refine ae (oC (k := 0) (vs := [(.int .i64 (Vj.params)), (.int .i64 (Vj.locals)), KF]) XM lF rfl rfl rfl (Nat.le_of_ble_eq_true rfl)) (bT h 13 lF fun w b80 h => dm (vs := [(.int .i64 (Vj.params)), (.int .i64 (Vj.locals)), KF]) h 13 [(.int .i64 (Vj.params)), (.int .i64 (Vj.locals)), KF] rfl lF rfl rfl rfl rfl rfl (ax rfl (ax rfl (ax (h.gB 12 rfl).one aZ))) fun w h => ah (aa (ai (ag (ae (ak uA rfl) (ae (aF h 13 rfl bz rfl rfl) (bA xx rfl rfl (gD _ _ h.lt Vj.params 0 3 _ rfl) ?_)))))))
 rintro _ w ⟨k81, rfl⟩
 refine ⟨_, rfl, ?_⟩
 replace h := h.grow k81
 refine ae (iq rfl) (ah (aa (aI hs rfl (fun c82 hs => ?_) (fun c82 hs => ?_))))
 refine ai (ag (ae (aj (v := (.slice none 0 0)) rfl) (ae (aj (v := (.int .i64 (1))) rfl) (ah (aa (aK (aH (aC (aC (aH (aC (DJ (v1 := (.slice none 0 0)) (v2 := (.int .i64 (1))) Tryz.results77 rfl rfl ?_))))))))))))
 obtain rfl := Option.some.inj hs
 exact ⟨h.grown, _, rfl, dL.nil, jf⟩
 refine aG (aA (aa (ag (ae (dw rfl rfl e69r) (ae (au (v := (.int .i64 ((i64 + 1)))) rfl) (ah (az ?_)))))))
 subst ZV
 exact jV ⟨V6 + 1, i64 + 1⟩ ⟨h.cn _, by omega, hs⟩ (by have := of_decide_eq_true Va; dsimp only; omega)
 rw [vP (by have := of_decide_eq_false Va; omega)] at hs
 refine df (aN (aN (bE (aa (ai (ag (o7 h 14 bz fun w Fh h => fq h 14 [(.int .i64 (0))] rfl bz rfl rfl rfl rfl rfl fun w h => ah (aa (ai (ag (o7 h 15 wT fun w yR h => fq h 15 [(.bool (true))] rfl wT rfl rfl rfl rfl rfl fun w h => ah (aa (ai (ag (ae (ru (c1 := []) (c2 := [(.pointer (some ⟨Fh, 0, none⟩)), (.pointer (some ⟨b6, 0, none⟩)), (.pointer (some ⟨yR, 0, none⟩))]) rfl rfl) (o7 h 16 ze fun w H8 h => fq h 16 [(.func (.func 103) #[] #[(.pointer (some ⟨Fh, 0, none⟩)), (.pointer (some ⟨b6, 0, none⟩)), (.pointer (some ⟨yR, 0, none⟩))])] rfl ze rfl rfl rfl rfl rfl fun w h => ah (aa ?_)))))))))))))))))
 refine ai (ag (ae (ru (c1 := []) (c2 := [(.pointer (some ⟨yR, 0, none⟩)), (.pointer (some ⟨H8, 0, none⟩)), (.pointer (some ⟨b7, 0, none⟩))]) rfl rfl) (o7 h 17 J4 fun w PG h => fq h 17 [(.func (.func 104) #[] #[(.pointer (some ⟨yR, 0, none⟩)), (.pointer (some ⟨H8, 0, none⟩)), (.pointer (some ⟨b7, 0, none⟩))])] rfl J4 rfl rfl rfl rfl rfl fun w h => ah (aa (ai (ag (o7 h 18 Gg fun w OB h => ah (aa (ai (ag (ae (ru (c1 := []) (c2 := [(.pointer (some ⟨H8, 0, none⟩)), (.pointer (some ⟨yR, 0, none⟩)), (.pointer (some ⟨PG, 0, none⟩)), (.pointer (some ⟨OB, 0, none⟩))]) rfl rfl) (fq h 18 [(.func (.func 109) #[] #[(.pointer (some ⟨H8, 0, none⟩)), (.pointer (some ⟨yR, 0, none⟩)), (.pointer (some ⟨PG, 0, none⟩)), (.pointer (some ⟨OB, 0, none⟩))])] rfl Gg rfl rfl rfl rfl rfl fun w h => ah (aa (ai (ai (ag (ae (aF h 3 rfl xY rfl rfl) (ae (bY iy rfl (h.dM 7 rfl)) (ae (au (v := (.int .i64 (0))) rfl) ?_)))))))))))))))))))
 refine ah (aa (aV ?_))
 have XN := (h.dM 7 rfl).cO
 refine gT (σ := Nat × Int × List eO × Int × Bool) (inl [19, 87, 88, 89, 90, 91, 92, 93, 94, 95, 96, 97, 98, 99, 100, 101, 102, 103]) (fun ⟨Li, i101, qM, y98, y99⟩ => [(87, (.int .i64 (i101)))]) (fun ⟨Li, i101, qM, y98, y99⟩ w => SH w0 M BE w (hset [(1, .rd nA u3 y1), (2, .blk b6 [u3]), (3, .blk b7 [v14]), (7, .own iH 113 v14 qM), (14, .blk Fh [(.int .i64 (y98))]), (15, .blk yR [(.bool (y99))]), (16, .blk H8 [(.func (.func 103) #[] #[(.pointer (some ⟨Fh, 0, none⟩)), (.pointer (some ⟨b6, 0, none⟩)), (.pointer (some ⟨yR, 0, none⟩))])]), (17, .blk PG [(.func (.func 104) #[] #[(.pointer (some ⟨yR, 0, none⟩)), (.pointer (some ⟨H8, 0, none⟩)), (.pointer (some ⟨b7, 0, none⟩))])]), (18, .blk OB [(.func (.func 109) #[] #[(.pointer (some ⟨H8, 0, none⟩)), (.pointer (some ⟨yR, 0, none⟩)), (.pointer (some ⟨PG, 0, none⟩)), (.pointer (some ⟨OB, 0, none⟩))])])]) ∧ i101 = (Li : Int) ∧ upto (ib N y1) (iW N y1 a) i101 (((iF.length : Int)).toNat - Li) (qM, y98, y99) = some r) (fun ⟨Li, i101, qM, y98, y99⟩ => ((iF.length : Int)).toNat - Li) ⟨0, 0, iF, 0, true⟩ ⟨rfl, trivial⟩ ?_ ?_
 exact ⟨h.cn _, rfl, hs⟩
 rintro ⟨Li, i101, qM, y98, y99⟩ w dz ⟨h, hik, hs⟩
 refine ai (ag ?_)
 refine ae (dN rfl rfl) (ah (aa ?_))
 refine ai (iJ rfl (fun J9 => ?_) (fun J9 => ?_))
 refine aG (aa ?_)
 rw [vO (by have := of_decide_eq_true J9; omega)] at hs
 generalize XO : upto (ib N y1) (iW N y1 a) (i101 + 1) (((iF.length : Int)).toNat - (Li + 1)) = ku at hs
 have ZW : jA (i101 + 1) := (by have := of_decide_eq_true J9; have := XN; exact jA.mk (by omega) (by omega))
 refine ai (aV (ai (ag (ae (au (v := (.int .i64 (i101))) rfl) (ae (aj (v := (.int .i64 (i101))) rfl) (ah (aa (bV (σ := Int × Bool) (inl [90, 91, 92]) (fun ⟨ou, Kb⟩ => []) (fun ⟨ou, Kb⟩ w => SH w0 M BE w (hset [(1, .rd nA u3 y1), (2, .blk b6 [u3]), (3, .blk b7 [v14]), (7, .own iH 113 v14 qM), (14, .blk Fh [(.int .i64 (ou))]), (15, .blk yR [(.bool (Kb))]), (16, .blk H8 [(.func (.func 103) #[] #[(.pointer (some ⟨Fh, 0, none⟩)), (.pointer (some ⟨b6, 0, none⟩)), (.pointer (some ⟨yR, 0, none⟩))])]), (17, .blk PG [(.func (.func 104) #[] #[(.pointer (some ⟨yR, 0, none⟩)), (.pointer (some ⟨H8, 0, none⟩)), (.pointer (some ⟨b7, 0, none⟩))])]), (18, .blk OB [(.func (.func 109) #[] #[(.pointer (some ⟨H8, 0, none⟩)), (.pointer (some ⟨yR, 0, none⟩)), (.pointer (some ⟨PG, 0, none⟩)), (.pointer (some ⟨OB, 0, none⟩))])])]) ∧ gY N y1 qM i101 ku ou Kb = some r) ?_ ?_))))))))
 rintro ⟨ou, Kb⟩ w dz ⟨h, hs⟩
 refine bV (σ := Int × Bool) (inl [93, 94]) (fun ⟨xC, Ka⟩ => []) (fun ⟨xC, Ka⟩ w => SH w0 M BE w (hset [(1, .rd nA u3 y1), (2, .blk b6 [u3]), (3, .blk b7 [v14]), (7, .own iH 113 v14 qM), (14, .blk Fh [(.int .i64 (xC))]), (15, .blk yR [(.bool (Ka))]), (16, .blk H8 [(.func (.func 103) #[] #[(.pointer (some ⟨Fh, 0, none⟩)), (.pointer (some ⟨b6, 0, none⟩)), (.pointer (some ⟨yR, 0, none⟩))])]), (17, .blk PG [(.func (.func 104) #[] #[(.pointer (some ⟨yR, 0, none⟩)), (.pointer (some ⟨H8, 0, none⟩)), (.pointer (some ⟨b7, 0, none⟩))])]), (18, .blk OB [(.func (.func 109) #[] #[(.pointer (some ⟨H8, 0, none⟩)), (.pointer (some ⟨yR, 0, none⟩)), (.pointer (some ⟨PG, 0, none⟩)), (.pointer (some ⟨OB, 0, none⟩))])])]) ∧ gX N y1 qM i101 ku xC Ka = some r) ?_ ?_
 rintro ⟨xC, Ka⟩ w dz ⟨h, hs⟩
 refine bV (σ := Int × Bool) (inl [95, 96]) (fun ⟨FD, y112⟩ => []) (fun ⟨FD, y112⟩ w => SH w0 M BE w (hset [(1, .rd nA u3 y1), (2, .blk b6 [u3]), (3, .blk b7 [v14]), (7, .own iH 113 v14 qM), (14, .blk Fh [(.int .i64 (FD))]), (15, .blk yR [(.bool (y112))]), (16, .blk H8 [(.func (.func 103) #[] #[(.pointer (some ⟨Fh, 0, none⟩)), (.pointer (some ⟨b6, 0, none⟩)), (.pointer (some ⟨yR, 0, none⟩))])]), (17, .blk PG [(.func (.func 104) #[] #[(.pointer (some ⟨yR, 0, none⟩)), (.pointer (some ⟨H8, 0, none⟩)), (.pointer (some ⟨b7, 0, none⟩))])]), (18, .blk OB [(.func (.func 109) #[] #[(.pointer (some ⟨H8, 0, none⟩)), (.pointer (some ⟨yR, 0, none⟩)), (.pointer (some ⟨PG, 0, none⟩)), (.pointer (some ⟨OB, 0, none⟩))])])]) ∧ gW N y1 qM i101 ku FD y112 = some r) ?_ ?_
 rintro ⟨FD, y112⟩ w dz ⟨h, hs⟩
 refine lY (L := (fun b => b = Fh ∨ b = yR ∨ ob v14 b)) mixed h fun w h => bg 0 (aP.refl _ _) rfl ay (by kernel_rfl) (by kernel_rfl) (by kernel_rfl) (fun w hk => have h := h.Rn 14 15 7 (by decide) (by decide) (by decide) rfl rfl rfl hk; aF h 3 rfl xY rfl rfl) (bg 1 (aP.refl _ _) rfl ay (by kernel_rfl) (by kernel_rfl) (by kernel_rfl) (fun w hk => au (v := (.int .i64 (i101))) rfl) (bg 2 (aP.refl _ _) rfl ay (by kernel_rfl) (by kernel_rfl) (by kernel_rfl) (fun w hk => have h := h.Rn 14 15 7 (by decide) (by decide) (by decide) rfl rfl rfl hk; aF h 18 rfl Gg rfl rfl) ?_))
 obtain ⟨ZX, SA⟩ : ∃ x, x = w := ⟨_, rfl⟩
 have Fj : aP (fun b => b = Fh ∨ b = yR ∨ ob v14 b) ZX w := SA ▸ aP.refl (fun b => b = Fh ∨ b = yR ∨ ob v14 b) w
 refine sj SA.symm (bN 3 (by kernel_rfl) rfl ay ?_)
 replace h := h.pair 14 15 (by decide)
 obtain ⟨Na, Nb, Nc⟩ := h.wC 14 (C := (.two (.blk Fh [(.int .i64 (FD))]) (.blk yR [(.bool (y112))]) : Chunk)) rfl ⟨trivial, trivial⟩
 obtain ⟨jK, PH, hs⟩ := aQ hs
 refine bA JW rfl rfl (M9 N _ _ Nc (hT.go h.keep) Fh yR b6 H8 b7 PG OB (⟨FD, y112⟩ : dH) Na Nb u3 y1 (h.Ol 14 1 rfl rfl) v14 qM (h.Y9 14 7 (by decide) rfl rfl) (h.qE 2 rfl) (fun hb => h.apart 14 2 (by decide) _ hb rfl) (h.qE 16 rfl) (fun hb => h.apart 14 16 (by decide) _ hb rfl) (h.qE 3 rfl) (fun hb => h.apart 14 3 (by decide) _ hb rfl) (h.qE 17 rfl) (fun hb => h.apart 14 17 (by decide) _ hb rfl) (h.qE 18 rfl) (fun hb => h.apart 14 18 (by decide) _ hb rfl) 1 (h.F8 hT (fun _ h => h.elim) 14 (C := (.two (.blk Fh [(.int .i64 (FD))]) (.blk yR [(.bool (y112))]) : Chunk)) rfl) _ PH) ?_
 rintro _ w ⟨IX, Yz, rfl, PI, PK, PL⟩
 refine ⟨_, rfl, ?_⟩
 replace h := h.back 14 (C := (.two (.blk Fh [(.int .i64 (FD))]) (.blk yR [(.bool (y112))]) : Chunk)) (C' := (.two (.blk Fh [(.int .i64 (jK.2.at_))]) (.blk yR [(.bool (jK.2.ok))]) : Chunk)) rfl ⟨trivial, trivial⟩ PI IX PK
 replace h := h.cZ 55 (Gb PL)
 replace h := h.bU 14 15 (by decide) rfl rfl
 replace Fj := aP.step Fj IX (fun _ hx _ => hx.elim (fun hx => .inl (hx)) (fun hx => .inr (.inl (hx))))
 refine ah (aX Fj ?_)
 obtain ⟨wu, D8, hs⟩ := aQ hs
 obtain ⟨YA, PM, PN⟩ := h.wo 7 rfl iy rfl (aJ D8).1 (aJ D8).2
 refine bg 4 Fj rfl ay (by kernel_rfl) (by kernel_rfl) (by kernel_rfl) (fun w hk => PN _ _ _ _ _ _ _ _ _ rfl rfl) (bg 5 Fj rfl ay (by kernel_rfl) (by kernel_rfl) (by kernel_rfl) (fun w hk => ak Ab rfl) (bN 6 (by kernel_rfl) rfl ay (Q9 (a' := { wu with body := jK.1 }) h 7 rfl PM rfl (aJ D8).2 oD rfl rfl (h.gB 55 rfl).one rfl (by rintro _ hq; obtain ⟨p2, rfl, q2⟩ := rG hq; exact ⟨_, rfl, (h.gB 55 rfl)⟩) fun w h PO => ?_)))
 replace Fj := aP.step Fj PO (fun _ hx _ => .inr (.inr (hx)))
 refine ah (aX Fj (fU (by kernel_rfl) (aA (aa (ag (ae (dw rfl rfl ZW) (ae (au (v := (.int .i64 ((i101 + 1)))) rfl) (ah (az ?_)))))))))
 subst XO
 exact jV ⟨Li + 1, i101 + 1, (qM.set (i101).toNat { wu with body := jK.1 }), jK.2.at_, jK.2.ok⟩ ⟨h.cn _, by omega, hs⟩ (by have := of_decide_eq_true J9; dsimp only; omega)
 refine ag (ae (aF h 16 rfl ze rfl rfl) (lX (args := [(.pointer (some ⟨Fh, 0, none⟩)), (.pointer (some ⟨b6, 0, none⟩)), (.pointer (some ⟨yR, 0, none⟩))]) za rfl rfl (aS (args := [(.pointer (some ⟨Fh, 0, none⟩)), (.pointer (some ⟨b6, 0, none⟩)), (.pointer (some ⟨yR, 0, none⟩))]) Tryz.func103 rfl Tryz.ntmps103 (Nat.le_of_ble_eq_true rfl) (ai (ag (ae (aj (v := (bu [])) rfl) (ah (aa (ai (ai (ag (ae (aF h 14 rfl bz rfl rfl) (ae (aF h 2 rfl mf rfl rfl) (ae (bY dZ rfl (h.oZ 1 rfl)) (ae (oK rfl rfl) (ah (aa (aI hs rfl (fun rA hs => ?_) (fun rA hs => ?_)))))))))))))))))))
 refine ai (ag (fq h 15 [(.bool (false))] rfl wT rfl rfl rfl rfl rfl fun w h => ah (aa (ai (ag (ae (aj (v := (bu [])) rfl) (ah (aa (aK (aC (cK (v := (bu [])) Tryz.results103 rfl (⟨_, rfl, ?_⟩))))))))))))
 refine ah (az ?_)
 exact bQ (xC, false) ⟨h.cn _, hs⟩
 refine aG (aa (ai (ag (ae (aF h 14 rfl bz rfl rfl) ?_))))
 obtain ⟨a126, hs⟩ := bG hs
 refine ae (dw rfl rfl a126) (fq h 14 [(.int .i64 ((xC + 1)))] rfl bz rfl rfl rfl rfl rfl fun w h => ah (aa (ai (ag (ae (aF h 2 rfl mf rfl rfl) (ae (aF h 14 rfl bz rfl rfl) ?_))))))
 obtain ⟨a127, hs⟩ := bG hs
 refine ae (oh rfl rfl a127) ?_
 obtain ⟨Vg, e129, hs⟩ := aQ hs
 obtain ⟨b131, o132, cs133, h, r134, i130⟩ := h.DI 1 115 rfl dZ rfl (aJ e129).1 (aJ e129).2
 obtain rfl := r134
 refine ae (i130 _ _ _ _ _ _ _ _ _ rfl rfl) (ae (eF (k := 0) h 115 rfl xZ rfl rfl) (ae (aj (v := (bu Vg)) rfl) (ah (aa (aK (cK (v := (bu Vg)) Tryz.results103 rfl (⟨_, rfl, ?_⟩)))))))
 refine ah (az ?_)
 exact bQ ((xC + 1), Ka) ⟨h.cn _, hs⟩
 refine ag (ae (aF h 16 rfl ze rfl rfl) (lX (args := [(.pointer (some ⟨Fh, 0, none⟩)), (.pointer (some ⟨b6, 0, none⟩)), (.pointer (some ⟨yR, 0, none⟩))]) za rfl rfl (aS (args := [(.pointer (some ⟨Fh, 0, none⟩)), (.pointer (some ⟨b6, 0, none⟩)), (.pointer (some ⟨yR, 0, none⟩))]) Tryz.func103 rfl Tryz.ntmps103 (Nat.le_of_ble_eq_true rfl) (ai (ag (ae (aj (v := (bu [])) rfl) (ah (aa (ai (ai (ag (ae (aF h 14 rfl bz rfl rfl) (ae (aF h 2 rfl mf rfl rfl) (ae (bY dZ rfl (h.oZ 1 rfl)) (ae (oK rfl rfl) (ah (aa (aI hs rfl (fun c135 hs => ?_) (fun c135 hs => ?_)))))))))))))))))))
 refine ai (ag (fq h 15 [(.bool (false))] rfl wT rfl rfl rfl rfl rfl fun w h => ah (aa (ai (ag (ae (aj (v := (bu [])) rfl) (ah (aa (aK (aC (cK (v := (bu [])) Tryz.results103 rfl (⟨_, rfl, ?_⟩))))))))))))
 refine ah (az ?_)
 exact bQ (ou, false) ⟨h.cn _, hs⟩
 refine aG (aa (ai (ag (ae (aF h 14 rfl bz rfl rfl) ?_))))
 obtain ⟨a136, hs⟩ := bG hs
 refine ae (dw rfl rfl a136) (fq h 14 [(.int .i64 ((ou + 1)))] rfl bz rfl rfl rfl rfl rfl fun w h => ah (aa (ai (ag (ae (aF h 2 rfl mf rfl rfl) (ae (aF h 14 rfl bz rfl rfl) ?_))))))
 obtain ⟨a137, hs⟩ := bG hs
 refine ae (oh rfl rfl a137) ?_
 obtain ⟨Vh, PQ, hs⟩ := aQ hs
 obtain ⟨b141, o142, cs143, h, r144, i140⟩ := h.DI 1 116 rfl dZ rfl (aJ PQ).1 (aJ PQ).2
 obtain rfl := r144
 refine ae (i140 _ _ _ _ _ _ _ _ _ rfl rfl) (ae (eF (k := 0) h 116 rfl xZ rfl rfl) (ae (aj (v := (bu Vh)) rfl) (ah (aa (aK (cK (v := (bu Vh)) Tryz.results103 rfl (⟨_, rfl, ?_⟩)))))))
 refine ah (az ?_)
 exact bQ ((ou + 1), Kb) ⟨h.cn _, hs⟩
 refine bV (σ := Bool × Int × Bool) (inl [90, 91, 92]) (fun ⟨Lh, FE, Kc⟩ => [(92, (.bool (Lh)))]) (fun ⟨Lh, FE, Kc⟩ w => SH w0 M BE w (hset [(1, .rd nA u3 y1), (2, .blk b6 [u3]), (3, .blk b7 [v14]), (7, .own iH 113 v14 qM), (14, .blk Fh [(.int .i64 (FE))]), (15, .blk yR [(.bool (Kc))]), (16, .blk H8 [(.func (.func 103) #[] #[(.pointer (some ⟨Fh, 0, none⟩)), (.pointer (some ⟨b6, 0, none⟩)), (.pointer (some ⟨yR, 0, none⟩))])]), (17, .blk PG [(.func (.func 104) #[] #[(.pointer (some ⟨yR, 0, none⟩)), (.pointer (some ⟨H8, 0, none⟩)), (.pointer (some ⟨b7, 0, none⟩))])]), (18, .blk OB [(.func (.func 109) #[] #[(.pointer (some ⟨H8, 0, none⟩)), (.pointer (some ⟨yR, 0, none⟩)), (.pointer (some ⟨PG, 0, none⟩)), (.pointer (some ⟨OB, 0, none⟩))])])]) ∧ gZ N y1 qM i101 ku Lh FE Kc = some r) ?_ ?_
 rintro ⟨Lh, FE, Kc⟩ w dz ⟨h, hs⟩
 refine aI hs rfl (fun c148 hs => ?_) (fun c148 hs => ?_)
 refine ag (fq h 15 [(.bool (false))] rfl wT rfl rfl rfl rfl rfl fun w h => ah (az ?_))
 exact bQ (FE, false) ⟨h.cn _, hs⟩
 refine aG (az ?_)
 exact bQ (FE, Kc) ⟨h.cn _, hs⟩
 refine ag (ae (aF h 16 rfl ze rfl rfl) (lX (args := [(.pointer (some ⟨Fh, 0, none⟩)), (.pointer (some ⟨b6, 0, none⟩)), (.pointer (some ⟨yR, 0, none⟩))]) za rfl rfl (aS (args := [(.pointer (some ⟨Fh, 0, none⟩)), (.pointer (some ⟨b6, 0, none⟩)), (.pointer (some ⟨yR, 0, none⟩))]) Tryz.func103 rfl Tryz.ntmps103 (Nat.le_of_ble_eq_true rfl) (ai (ag (ae (aj (v := (bu [])) rfl) (ah (aa (ai (ai (ag (ae (aF h 14 rfl bz rfl rfl) (ae (aF h 2 rfl mf rfl rfl) (ae (bY dZ rfl (h.oZ 1 rfl)) (ae (oK rfl rfl) (ah (aa (aI hs rfl (fun c149 hs => ?_) (fun c149 hs => ?_)))))))))))))))))))
 refine ai (ag (fq h 15 [(.bool (false))] rfl wT rfl rfl rfl rfl rfl fun w h => ah (aa (ai (ag (ae (aj (v := (bu [])) rfl) (ah (aa (aK (aC (cK (v := (bu [])) Tryz.results103 rfl (⟨_, rfl, ?_⟩))))))))))))
 refine ae (F6 rfl rfl) (ah (az ?_))
 exact bQ (true, y98, false) ⟨h.cn _, hs⟩
 refine aG (aa (ai (ag (ae (aF h 14 rfl bz rfl rfl) ?_))))
 obtain ⟨a150, hs⟩ := bG hs
 refine ae (dw rfl rfl a150) (fq h 14 [(.int .i64 ((y98 + 1)))] rfl bz rfl rfl rfl rfl rfl fun w h => ah (aa (ai (ag (ae (aF h 2 rfl mf rfl rfl) (ae (aF h 14 rfl bz rfl rfl) ?_))))))
 obtain ⟨a151, hs⟩ := bG hs
 refine ae (oh rfl rfl a151) ?_
 obtain ⟨x152, e153, hs⟩ := aQ hs
 obtain ⟨b155, o156, cs157, h, r158, i154⟩ := h.DI 1 117 rfl dZ rfl (aJ e153).1 (aJ e153).2
 obtain rfl := r158
 refine ae (i154 _ _ _ _ _ _ _ _ _ rfl rfl) (ae (eF (k := 0) h 117 rfl xZ rfl rfl) (ae (aj (v := (bu x152)) rfl) (ah (aa (aK (cK (v := (bu x152)) Tryz.results103 rfl (⟨_, rfl, ?_⟩)))))))
 refine ae (F6 rfl rfl) (ah (az ?_))
 exact bQ (decide ((x152 : Str) ≠ [102, 117, 110]), (y98 + 1), y99) ⟨h.cn _, hs⟩
 rw [vP (by have := of_decide_eq_false J9; omega)] at hs
 refine df (aN (aN (bE (aa (ai (bV (σ := Bool) (inl [104, 105, 106, 107, 108, 109, 110, 111, 112, 113, 114, 115, 116, 117, 118, 119, 120, 121, 122]) (fun x159 => [(122, (.bool (x159)))]) (fun x159 w => SH w0 M BE w (hset [(3, .blk b7 [v14]), (7, .own iH 113 v14 qM)]) ∧ iV qM x159 = some r) ?_ ?_))))))
 rintro x159 w dz ⟨h, hs⟩
 refine aI hs rfl (fun c160 hs => ?_) (fun c160 hs => ?_)
 refine ai (ag (ae (aj (v := (.slice none 0 0)) rfl) (ae (aj (v := (.int .i64 (1))) rfl) (ah (aa (aK (aC (DJ (v1 := (.slice none 0 0)) (v2 := (.int .i64 (1))) Tryz.results77 rfl rfl ?_))))))))
 obtain rfl := Option.some.inj hs
 exact ⟨h.grown, _, rfl, dL.nil, jf⟩
 refine aG (aa (ai (ag (ae (aF h 3 rfl xY rfl rfl) (ae (aj (v := v14) rfl) (ae (aj (v := (.int .i64 (0))) rfl) (ah (aa (aK (DJ (v1 := v14) (v2 := (.int .i64 (0))) Tryz.results77 rfl rfl ?_))))))))))
 obtain rfl := Option.some.inj hs
 exact ⟨h.grown, _, rfl, (h.lI 7 rfl).1, (h.lI 7 rfl).2⟩
 refine ag (ae (aF h 15 rfl wT rfl rfl) (ae (iq rfl) (ae (au (v := (.bool ((!y99)))) rfl) (aD rfl rfl (fun q => aF h 14 rfl bz rfl rfl) (aD rfl rfl (fun q => aF h 2 rfl mf rfl rfl) (aD rfl rfl (fun q => bY dZ (dn q) (h.oZ 1 rfl)) (aD rfl rfl (fun q => dN (dn q) (dn q)) (ae (gu rfl rfl lV) (ae (au (v := (.bool (((!y99) || decide ((y98 : Int) < (y1.length : Int)))))) rfl) (lW (b := ((!y99) || decide ((y98 : Int) < (y1.length : Int)))) hs (fun Kg hs => ?_) (fun Kg hs => ?_)))))))))))
 refine dh (b' := true) rfl (congrArg Value.bool Kg) rfl (dh (b' := true) rfl (congrArg Value.bool Kg) rfl (dh (b' := true) rfl (congrArg Value.bool Kg) rfl (ae (fw (b := true) (v := (.bool (true))) (congrArg Value.bool Kg) rfl) (ae (au (v := (.bool (true))) rfl) (dh (b' := true) rfl rfl rfl (dh (b' := true) rfl rfl rfl (dh (b' := true) rfl rfl rfl (dh (b' := true) rfl rfl rfl (ae (fw (b := true) (v := (.bool (true))) rfl rfl) (ah (az ?_)))))))))))
 exact bQ true ⟨h.cn _, hs⟩
 refine eY rfl (congrArg Value.bool Kg) (ae (aF h 3 rfl xY rfl rfl) (eY rfl (congrArg Value.bool Kg) ?_))
 obtain ⟨Sz, e163, hs⟩ := aQ hs
 refine bA U0 rfl rfl (wU N _ _ h.lt v14 qM (h.dM 7 rfl) _ e163) ?_
 rintro _ w ⟨k164, rfl⟩
 refine ⟨_, rfl, ?_⟩
 replace h := h.grow k164
 refine eY rfl (congrArg Value.bool Kg) (ae (gq rfl rfl) (ae (fw (b := false) (v := (.bool (decide ((Sz : Int) ≠ 0)))) (congrArg Value.bool Kg) rfl) (ae (au (v := (.bool (decide ((Sz : Int) ≠ 0)))) rfl) (lW (b := decide ((Sz : Int) ≠ 0)) hs (fun Gq hs => ?_) (fun Gq hs => ?_)))))
 refine dh (b' := true) rfl (congrArg Value.bool Gq) rfl (dh (b' := true) rfl (congrArg Value.bool Gq) rfl (dh (b' := true) rfl (congrArg Value.bool Gq) rfl (dh (b' := true) rfl (congrArg Value.bool Gq) rfl (ae (fw (b := true) (v := (.bool (true))) (congrArg Value.bool Gq) rfl) (ah (az ?_))))))
 exact bQ true ⟨h.cn _, hs⟩
 refine eY rfl (congrArg Value.bool Gq) (ae (aF h 3 rfl xY rfl rfl) (eY rfl (congrArg Value.bool Gq) ?_))
 obtain ⟨Vi, e167, hs⟩ := aQ hs
 refine bA U1 rfl rfl (xz N _ _ h.lt (hT.go h.keep) v14 qM (h.dM 7 rfl) _ e167) ?_
 rintro _ w ⟨k168, rfl⟩
 refine ⟨_, rfl, ?_⟩
 replace h := h.grow k168
 refine eY rfl (congrArg Value.bool Gq) (ae (au (v := (bu a)) rfl) (eY rfl (congrArg Value.bool Gq) (ae (F6 rfl rfl) (ae (fw (b := false) (v := (.bool (decide ((Vi : Str) ≠ a)))) (congrArg Value.bool Gq) rfl) (ah (az ?_))))))
 exact bQ (decide ((Vi : Str) ≠ a)) ⟨h.cn _, hs⟩
def jT (N : Nat) : Option (List eO) :=
  (j4 N [102, 117, 110, 32, 48, 32, 49, 32, 123, 32, 115, 101, 116, 32, 48, 32, 51, 32, 119, 104, 105, 108, 101, 32, 118, 48, 32, 123, 32, 115, 97, 121, 32, 102, 49, 32, 118, 48, 32, 118, 48, 32, 103, 111, 32, 118, 48, 32, 112, 97, 117, 115, 101, 32, 115, 101, 116, 32, 48, 32, 45, 32, 118, 48, 32, 49, 32, 125, 32, 125, 32, 102, 117, 110, 32, 50, 32, 50, 32, 123, 32, 114, 101, 116, 117, 114, 110, 32, 42, 32, 118, 48, 32, 118, 49, 32, 125]).bind fun y1 => some y1.1
theorem zK (N : Nat) (w0 : World) (M : BS) (hM : ∀ b, M b → b < w0.heap.size) (hT : uy Tryz.prog 4 w0)  (r : List eO) (hs : jT N = some r) :
    Calls Tryz.prog 40 #[] w0 (fun e w' => Grow w0 w' ∧ ∃ u0, e = .returned (u0) ∧ dL iH 113 w' M u0 r ∧ (∀ b, ob u0 b → w0.heap.size ≤ b)) := by
 refine aS (args := []) Tryz.func40 rfl Tryz.ntmps40 (Nat.le_of_ble_eq_true rfl) ?_
 have h := SH.init hM
 refine ai (ag (ae (aj (v := (.slice none 0 0)) rfl) (ah (aa (ai (ag ?_))))))
 obtain ⟨y1, e2, hs⟩ := aQ hs
 refine bA Xn rfl rfl (xD N _ _ h.lt (hT.go h.keep) [102, 117, 110, 32, 48, 32, 49, 32, 123, 32, 115, 101, 116, 32, 48, 32, 51, 32, 119, 104, 105, 108, 101, 32, 118, 48, 32, 123, 32, 115, 97, 121, 32, 102, 49, 32, 118, 48, 32, 118, 48, 32, 103, 111, 32, 118, 48, 32, 112, 97, 117, 115, 101, 32, 115, 101, 116, 32, 48, 32, 45, 32, 118, 48, 32, 49, 32, 125, 32, 125, 32, 102, 117, 110, 32, 50, 32, 50, 32, 123, 32, 114, 101, 116, 117, 114, 110, 32, 42, 32, 118, 48, 32, 118, 49, 32, 125] _ e2) ?_
 rintro _ w ⟨k6, u3, rfl, g4, g5⟩
 refine ⟨_, rfl, ?_⟩
 replace h := h.jM 1 k6 g4 g5
 refine ae (au (v := (.tuple #[u3, (.int .i64 (y1.2))])) rfl) (ae (bC rfl rfl) (ae (bC rfl rfl) (ae (aj (v := u3) rfl) (ae (aj (v := (.int .i64 (y1.2))) rfl) (ah (aa (ai (ag (ae (au (v := u3) rfl) (ae (aj (v := u3) rfl) (ah (aa (aK (cK (v := u3) Tryz.results40 rfl ?_))))))))))))))
 obtain rfl := Option.some.inj hs
 exact ⟨h.grown, _, rfl, (h.lI 1 rfl).1, (h.lI 1 rfl).2⟩
def fB (x31 : List Ins) (c : Int) (x34 : Int) (vJ : Int) (SB : Int) (rq : Int) (wV : List Int) : Option (List Ins × Int) :=
  gz (Room 56 x31 [(⟨vJ, c, SB, rq, wV⟩ : Ins)]) (some ((x31 ++ [(⟨vJ, c, SB, rq, wV⟩ : Ins)]), x34))
def oH (F0 : List Tok → List eO → Int → Option (List Ins × Int)) (y9 : Int) (a : List Tok) (c : Int) (b : List eO) (x1 : Tok) (s : List Ins × List Int × Int × Int) (SC : List Ins × List Int × Int × Int → Option (List Ins × Int)) : Option (List Ins × Int) :=
  match s with | (x31, yg, x34, xL) => bif decide ((xL : Int) < y9) then (sub? a x34 (a.length : Int)).bind fun YB => gz (jA (c + xL)) ((F0 YB b (c + xL)).bind fun yf => gz (Room 56 x31 yf.1) (gz (jA (x34 + yf.2)) (gz (jA (c + xL)) (gz (Room 8 yg [(c + xL)]) (gz (jA (xL + 1)) (SC ((x31 ++ yf.1), (yg ++ [(c + xL)]), (x34 + yf.2), (xL + 1)))))))) else bif decide ((x1.kind : Int) = 1) then fB x31 c x34 1 x1.n 0 [] else bif decide ((x1.kind : Int) = 2) then fB x31 c x34 2 x1.n 0 [] else bif decide ((x1.kind : Int) = 5) then fB x31 c x34 5 x1.n 0 [] else bif decide ((x1.kind : Int) = 3) then gz (jA (c + 1)) (fB x31 c x34 3 c (c + 1) [x1.n]) else bif decide ((x1.kind : Int) = 4) then fB x31 c x34 4 c x1.n [] else bif decide ((x1.kind : Int) = 6) then fB x31 c x34 7 x1.n 0 yg else fB x31 c x34 0 x1.n 0 []
def uK (N : Nat) (F0 : List Tok → List eO → Int → Option (List Ins × Int)) (a : List Tok) (b : List eO) (c : Int) : Option (List Ins × Int) :=
  (idx a 0).bind fun x1 => (qw x1 b).bind fun y9 => again (oH F0 y9 a c b x1) N ([], [], 1, 0)
def jy : Nat → List Tok → List eO → Int → Option (List Ins × Int)
  | 0 => fun _ _ _ => none
  | N + 1 => uK N (jy N)
theorem uL : ∀ (N : Nat) (w0 : World) (M : BS) (hM : ∀ b, M b → b < w0.heap.size) (va : Value) (a : List Tok) (ha : gp jY w0 BE M va a) (vb : Value) (b : List eO) (hb : gp iH w0 BE M vb b) (c : Int) (r : List Ins × Int) (hs : jy N a b c = some r),
    Calls Tryz.prog 100 #[va, vb, (.int .i64 (c))] w0 (fun e w' => Grow w0 w' ∧ ∃ u0, e = .returned (.tuple #[u0, .int .i64 r.2]) ∧ dL jm 93 w' M u0 r.1 ∧ (∀ b, ob u0 b → w0.heap.size ≤ b)) := by
 intro N
 induction N with
 | zero => intro w0 M hM va a ha vb b hb c r hs; cases hs
 | succ N ih =>
 intro w0 M hM va a ha vb b hb c r hs
 replace hs : uK N (jy N) a b c = some r := hs
 generalize jy N = F0 at hs ih
 refine aS (args := [va, vb, (.int .i64 (c))]) Tryz.func100 rfl Tryz.ntmps100 (Nat.le_of_ble_eq_true rfl) ?_
 have h := SH.init hM
 replace h := h.il 1 ha bR
 replace h := h.il 2 hb (eT bR)
 have u7 := ha.cO
 have MO := hb.cO
 refine ai (ag (ae (aj (v := (.slice none 0 0)) rfl) (ae (aj (v := (.int .i64 (0))) rfl) (ah (aa (ai (ag (ae (au (v := va) rfl) ?_))))))))
 obtain ⟨x1, e2, hs⟩ := aQ hs
 obtain ⟨b4, o5, cs6, h, r7, i3⟩ := h.Bt 1 3 rfl jP rfl (aJ e2).1 (aJ e2).2
 obtain rfl := r7
 refine ae (i3 _ _ _ _ _ _ _ _ _ rfl rfl) (ae (jW (k := 0) (vs := [(.int .i64 (x1.kind)), (.int .i64 (x1.n))]) h 3 rfl jJ rfl rfl rfl (Nat.le_of_ble_eq_true rfl)) (bT h 4 jJ fun w b8 h => dm (vs := [(.int .i64 (x1.kind)), (.int .i64 (x1.n))]) h 4 [(.int .i64 (x1.kind)), (.int .i64 (x1.n))] rfl jJ rfl rfl rfl rfl rfl (ax rfl (ax rfl aZ)) fun w h => ah (aa (ai (ag (ae (aj (v := (.slice none 0 0)) rfl) (ah (aa (ai (ag (ae (aj (v := (.slice none 0 0)) rfl) (ah (aa (ai (ag (ae (aj (v := (.int .i64 (1))) rfl) (ah (aa (ai (ai (ag ?_)))))))))))))))))))))
 refine ae (dS (vs := [(.int .i64 (x1.kind)), (.int .i64 (x1.n))]) h 4 rfl jJ rfl rfl rfl) (ae (au (v := vb) rfl) ?_)
 obtain ⟨y9, e10, hs⟩ := aQ hs
 refine bA JV rfl rfl (rz _ _ h.lt x1 vb b (h.je 2 rfl) _ e10) ?_
 rintro _ w ⟨k11, rfl⟩
 refine ⟨_, rfl, ?_⟩
 replace h := h.grow k11
 refine ae (au (v := (.int .i64 (0))) rfl) (ah (aa (aV ?_)))
 replace h := h.xO (R := jm) (E := 93) 11
 replace h := h.xO (R := fF) (E := 3) 12
 refine gT (σ := Nat × Value × List Ins × Value × List Int × Int × Int) (inl [9, 10, 11, 12, 13, 14, 22, 23, 24, 25, 26, 27, 28, 29, 30, 31, 32, 33, 34, 35, 36, 37, 38, 39, 40, 41, 42, 43, 44, 45, 46, 47, 48]) (fun ⟨XP, v30, x31, v32, yg, x34, xL⟩ => [(9, v30), (10, v32), (11, (.int .i64 (x34))), (22, (.int .i64 (xL)))]) (fun ⟨XP, v30, x31, v32, yg, x34, xL⟩ w => SH w0 M BE w (hset [(1, .sr jY va a), (2, .sr iH vb b), (4, .blk b8 [(.int .i64 (x1.kind)), (.int .i64 (x1.n))]), (11, .own jm 93 v30 x31), (12, .own fF 3 v32 yg)]) ∧ again (oH F0 y9 a c b x1) XP (x31, yg, x34, xL) = some r) (fun ⟨XP, v30, x31, v32, yg, x34, xL⟩ => XP) ⟨N, (.slice none 0 0), [], (.slice none 0 0), [], 1, 0⟩ ⟨rfl, rfl, rfl, rfl, trivial⟩ ?_ ?_
 exact ⟨h.cn _, hs⟩
 rintro ⟨XP, v30, x31, v32, yg, x34, xL⟩ w dz ⟨h, hs⟩
 obtain ⟨ZY, m39e, m39h⟩ := qm hs
 subst m39e
 replace hs := m39h
 generalize SE : again (oH F0 y9 a c b x1) ZY = SC at hs
 refine ai (ag (ae (dN rfl rfl) (ah (aa (ai (aI hs rfl (fun c43 hs => ?_) (fun c43 hs => ?_)))))))
 refine aG (aa (ai (aV (ai (ag (ae (au (v := (.int .i64 (xL))) rfl) (ae (aj (v := (.int .i64 (xL))) rfl) (ah (aa (ai (ag (ae (au (v := va) rfl) (ae (au (v := (.int .i64 (x34))) rfl) ?_)))))))))))))
 obtain ⟨YB, e45, hs⟩ := aQ hs
 obtain ⟨e48, e48a, e48b, e48c⟩ := Iy e45
 obtain ⟨u46, h, i47⟩ := h.slS 1 13 rfl jP rfl e48a e48b e48c
 rw [← e48] at h
 refine ae (i47 _ _ _ _ _ _ _ _ _ _ rfl (.inr (congrArg some rfl)) (.inl ⟨rfl, rfl⟩)) (ae (au (v := vb) rfl) (ae (au (v := (.int .i64 (c))) rfl) (ae (au (v := (.int .i64 (xL))) rfl) ?_)))
 obtain ⟨a49, hs⟩ := bG hs
 refine ae (dw rfl rfl a49) ?_
 obtain ⟨yf, e51, hs⟩ := aQ hs
 refine bA JS rfl rfl (ih _ _ h.lt u46 YB (h.je 13 rfl) vb b (h.je 2 rfl) (c + xL) _ e51) ?_
 rintro _ w ⟨Zv, u52, rfl, g53, g54⟩
 refine ⟨_, rfl, ?_⟩
 replace h := h.jM 14 Zv g53 g54
 refine ae (au (v := (.tuple #[u52, (.int .i64 (yf.2))])) rfl) (ae (bC rfl rfl) (ae (bC rfl rfl) (ae (aj (v := u52) rfl) (ae (aj (v := (.int .i64 (yf.2))) rfl) (ah (aa (ag (ae (au (v := v30) rfl) (ae (au (v := u52) rfl) ?_)))))))))
 obtain ⟨a56, hs⟩ := bG hs
 refine mo (R := jm) (m := yf.1) h 11 rfl (h.dM 14 rfl) eG rfl rfl rfl a56.1 a56.2 fun w u57 h => ae (au (v := (.int .i64 (x34))) rfl) (ae (au (v := (.int .i64 (yf.2))) rfl) ?_)
 obtain ⟨a58, hs⟩ := bG hs
 refine ae (dw rfl rfl a58) (ae (au (v := v32) rfl) (ae (au (v := (.int .i64 (c))) rfl) (ae (au (v := (.int .i64 (xL))) rfl) ?_)))
 obtain ⟨a59, hs⟩ := bG hs
 refine ae (dw rfl rfl a59) (uw (R := fF) (vs := [(.int .i64 ((c + xL)))]) (xs := [(c + xL)]) h 15 ky rfl rfl rfl ⟨rfl, trivial⟩ rfl fun w u60 h => ?_)
 obtain ⟨a61, hs⟩ := bG hs
 refine mo (R := fF) (m := [(c + xL)]) h 12 rfl (h.dM 15 rfl) ky rfl rfl rfl a61.1 a61.2 fun w Yq h => ae (aj (v := u57) rfl) (ae (aj (v := (.int .i64 ((x34 + yf.2)))) rfl) (ae (aj (v := Yq) rfl) (ah (aA (aa (ag ?_))))))
 obtain ⟨a63, hs⟩ := bG hs
 refine ae (dw rfl rfl a63) (ae (au (v := (.int .i64 ((xL + 1)))) rfl) (ah (az ?_)))
 subst SE
 exact jV ⟨ZY, u57, (x31 ++ yf.1), Yq, (yg ++ [(c + xL)]), (x34 + yf.2), (xL + 1)⟩ ⟨h.cn _, hs⟩
 refine df (aN (aN (bE (aa (ai (ag (ae (au (v := (.int .i64 (c))) rfl) (ae (ak mH rfl) (ae (aF h 4 rfl bz rfl rfl) (ae (dC (pv := [(1, (.int .i64 (c))), (2, (.int .i64 (x1.n)))]) (out := [(.int .i64 (0)), (.int .i64 (c)), (.int .i64 (x1.n)), (.int .i64 (0)), (.slice none 0 0)]) lZ rfl ⟨1, 1, [(.int .i64 (c))], rfl, rfl, rfl, Nat.le_of_ble_eq_true rfl, ⟨2, 1, [(.int .i64 (x1.n))], rfl, rfl, rfl, Nat.le_of_ble_eq_true rfl, rfl⟩⟩) (bT h 16 pq fun w b64 h => dm (vs := [(.int .i64 (0)), (.int .i64 (c)), (.int .i64 (x1.n)), (.int .i64 (0)), (.slice none 0 0)]) h 16 [(.int .i64 (0)), (.int .i64 (c)), (.int .i64 (x1.n)), (.int .i64 (0)), (.slice none 0 0)] rfl pq rfl rfl rfl rfl rfl (ax rfl (ax rfl (ax rfl (ax rfl (ax rfl aZ))))) fun w h => ah (aa (bV (σ := Int × Int × Int × Value × List Int) (inl [53, 54, 55, 56, 57, 58, 59, 60, 61, 62, 63, 64, 65, 66, 67, 68, 69, 70, 71, 72, 73, 74, 75, 76, 77, 78, 79, 80, 81, 82, 83, 84, 85]) (fun ⟨vJ, SB, rq, v68, wV⟩ => []) (fun ⟨vJ, SB, rq, v68, wV⟩ w => SH w0 M BE w (hset [(11, .own jm 93 v30 x31), (16, .blk b64 [(.int .i64 (vJ)), (.int .i64 (c)), (.int .i64 (SB)), (.int .i64 (rq)), v68]), (17, .own fF 3 v68 wV)]) ∧ fB x31 c x34 vJ SB rq wV = some r) ?_ ?_)))))))))))))
 rintro ⟨vJ, SB, rq, v68, wV⟩ w dz ⟨h, hs⟩
 refine ai (ag (ae (au (v := v30) rfl) (ae (dS (vs := [(.int .i64 (vJ)), (.int .i64 (c)), (.int .i64 (SB)), (.int .i64 (rq)), v68]) h 16 rfl pq rfl rfl rfl) ?_)))
 replace h := h.freeze 17 rfl
 refine uw (R := jm) (vs := [(.agg #[(.int .i64 (vJ)), (.int .i64 (c)), (.int .i64 (SB)), (.int .i64 (rq)), v68])]) (xs := [(⟨vJ, c, SB, rq, wV⟩ : Ins)]) h 18 eG rfl rfl rfl ⟨⟨_, rfl, (h.gB 17 rfl)⟩, trivial⟩ rfl fun w u70 h => ?_
 obtain ⟨a71, hs⟩ := bG hs
 refine mo (R := jm) (m := [(⟨vJ, c, SB, rq, wV⟩ : Ins)]) h 11 rfl (h.dM 18 rfl) eG rfl rfl rfl a71.1 a71.2 fun w u72 h => ae (au (v := (.int .i64 (x34))) rfl) (ae (aj (v := u72) rfl) (ae (aj (v := (.int .i64 (x34))) rfl) (ah (aa (aK (DJ (v1 := u72) (v2 := (.int .i64 (x34))) Tryz.results100 rfl rfl ?_))))))
 obtain rfl := Option.some.inj hs
 exact ⟨h.grown, _, rfl, (h.lI 11 rfl).1, (h.lI 11 rfl).2⟩
 refine ai (ag (ae (ak CV rfl) (ae (aF h 4 rfl bz rfl rfl) (ah (aa (aV (ai (ag (ae (bI rfl rfl) (ae (aj (v := (.bool (decide ((x1.kind : Int) = 1)))) rfl) (ah (aa (aI hs rfl (fun c73 hs => ?_) (fun c73 hs => ?_))))))))))))))
 refine ag (ae (ak oP rfl) (fq h 16 [(.int .i64 (1)), (.int .i64 (c)), (.int .i64 (x1.n)), (.int .i64 (0)), (.slice none 0 0)] rfl bz rfl rfl rfl rfl rfl fun w h => ah (aA (az ?_))))
 replace h := h.xO (R := fF) (E := 3) 17
 exact bQ (1, x1.n, 0, (.slice none 0 0), []) ⟨h.cn _, hs⟩
 refine ai (ag (ae (bI rfl rfl) (ae (aj (v := (.bool (decide ((x1.kind : Int) = 2)))) rfl) (ah (aa (aI hs rfl (fun ZL hs => ?_) (fun ZL hs => ?_)))))))
 refine ag (ae (ak oP rfl) (fq h 16 [(.int .i64 (2)), (.int .i64 (c)), (.int .i64 (x1.n)), (.int .i64 (0)), (.slice none 0 0)] rfl bz rfl rfl rfl rfl rfl fun w h => ah (aA (az ?_))))
 replace h := h.xO (R := fF) (E := 3) 17
 exact bQ (2, x1.n, 0, (.slice none 0 0), []) ⟨h.cn _, hs⟩
 refine ai (ag (ae (bI rfl rfl) (ae (aj (v := (.bool (decide ((x1.kind : Int) = 5)))) rfl) (ah (aa (aI hs rfl (fun c75 hs => ?_) (fun c75 hs => ?_)))))))
 refine ag (ae (ak oP rfl) (fq h 16 [(.int .i64 (5)), (.int .i64 (c)), (.int .i64 (x1.n)), (.int .i64 (0)), (.slice none 0 0)] rfl bz rfl rfl rfl rfl rfl fun w h => ah (aA (az ?_))))
 replace h := h.xO (R := fF) (E := 3) 17
 exact bQ (5, x1.n, 0, (.slice none 0 0), []) ⟨h.cn _, hs⟩
 refine ai (ag (ae (bI rfl rfl) (ae (aj (v := (.bool (decide ((x1.kind : Int) = 3)))) rfl) (ah (aa (aI hs rfl (fun c76 hs => ?_) (fun c76 hs => ?_)))))))
 refine ag (ae (au (v := (.int .i64 (c))) rfl) (ae (au (v := (.int .i64 (c))) rfl) (ae (au (v := (.int .i64 (c))) rfl) ?_)))
 obtain ⟨a77, hs⟩ := bG hs
 refine ae (dw rfl rfl a77) (ae (ak mH rfl) (ae (aF h 4 rfl bz rfl rfl) (uw (R := fF) (vs := [(.int .i64 (x1.n))]) (xs := [x1.n]) h 19 ky rfl rfl rfl ⟨rfl, trivial⟩ rfl fun w KF h => ae (dC (pv := [(0, (.int .i64 (3))), (1, (.int .i64 (c))), (2, (.int .i64 (c))), (3, (.int .i64 ((c + 1)))), (4, KF)]) (out := [(.int .i64 (3)), (.int .i64 (c)), (.int .i64 (c)), (.int .i64 ((c + 1))), KF]) lZ rfl ⟨0, 1, [(.int .i64 (3))], rfl, rfl, rfl, Nat.le_of_ble_eq_true rfl, ⟨1, 1, [(.int .i64 (c))], rfl, rfl, rfl, Nat.le_of_ble_eq_true rfl, ⟨2, 1, [(.int .i64 (c))], rfl, rfl, rfl, Nat.le_of_ble_eq_true rfl, ⟨3, 1, [(.int .i64 ((c + 1)))], rfl, rfl, rfl, Nat.le_of_ble_eq_true rfl, ⟨4, 1, [KF], rfl, (iT (h.dD 19 rfl).one), rfl, Nat.le_of_ble_eq_true rfl, rfl⟩⟩⟩⟩⟩) (dm (vs := [(.int .i64 (3)), (.int .i64 (c)), (.int .i64 (c)), (.int .i64 ((c + 1))), KF]) h 16 [(.int .i64 (3)), (.int .i64 (c)), (.int .i64 (c)), (.int .i64 ((c + 1))), KF] rfl pq rfl rfl rfl rfl rfl (ax rfl (ax rfl (ax rfl (ax rfl (ax (h.dD 19 rfl).one aZ))))) fun w h => ah (aA (az ?_))))))
 replace h := h.zU 19 17 rfl rfl (by decide)
 exact bQ (3, c, (c + 1), KF, [x1.n]) ⟨h.cn _, hs⟩
 refine ai (ag (ae (bI rfl rfl) (ae (aj (v := (.bool (decide ((x1.kind : Int) = 4)))) rfl) (ah (aa (aI hs rfl (fun c79 hs => ?_) (fun c79 hs => ?_)))))))
 refine ag (ae (au (v := (.int .i64 (c))) rfl) (ae (au (v := (.int .i64 (c))) rfl) (ae (ak mH rfl) (ae (aF h 4 rfl bz rfl rfl) (ae (dC (pv := [(0, (.int .i64 (4))), (1, (.int .i64 (c))), (2, (.int .i64 (c))), (3, (.int .i64 (x1.n)))]) (out := [(.int .i64 (4)), (.int .i64 (c)), (.int .i64 (c)), (.int .i64 (x1.n)), (.slice none 0 0)]) lZ rfl ⟨0, 1, [(.int .i64 (4))], rfl, rfl, rfl, Nat.le_of_ble_eq_true rfl, ⟨1, 1, [(.int .i64 (c))], rfl, rfl, rfl, Nat.le_of_ble_eq_true rfl, ⟨2, 1, [(.int .i64 (c))], rfl, rfl, rfl, Nat.le_of_ble_eq_true rfl, ⟨3, 1, [(.int .i64 (x1.n))], rfl, rfl, rfl, Nat.le_of_ble_eq_true rfl, rfl⟩⟩⟩⟩) (dm (vs := [(.int .i64 (4)), (.int .i64 (c)), (.int .i64 (c)), (.int .i64 (x1.n)), (.slice none 0 0)]) h 16 [(.int .i64 (4)), (.int .i64 (c)), (.int .i64 (c)), (.int .i64 (x1.n)), (.slice none 0 0)] rfl pq rfl rfl rfl rfl rfl (ax rfl (ax rfl (ax rfl (ax rfl (ax rfl aZ))))) fun w h => ah (aA (az ?_))))))))
 replace h := h.xO (R := fF) (E := 3) 17
 exact bQ (4, c, x1.n, (.slice none 0 0), []) ⟨h.cn _, hs⟩
 refine ai (ag (ae (bI rfl rfl) (ae (aj (v := (.bool (decide ((x1.kind : Int) = 6)))) rfl) (ah (aa (aI hs rfl (fun c80 hs => ?_) (fun c80 hs => ?_)))))))
 refine ag (ae (au (v := v32) rfl) (ae (ak oP rfl) (fq h 16 [(.int .i64 (7)), (.int .i64 (c)), (.int .i64 (x1.n)), (.int .i64 (0)), (.slice none 0 0)] rfl bz rfl rfl rfl rfl rfl fun w h => ae (ak vT rfl) (fq h 16 [(.int .i64 (7)), (.int .i64 (c)), (.int .i64 (x1.n)), (.int .i64 (0)), v32] rfl uC rfl rfl rfl rfl (h.dD 12 rfl).one fun w h => ah (aA (az ?_))))))
 replace h := h.zU 12 17 rfl rfl (by decide)
 exact bQ (7, x1.n, 0, v32, yg) ⟨h.cn _, hs⟩
 refine aG (aA (az ?_))
 replace h := h.xO (R := fF) (E := 3) 17
 exact bQ (0, x1.n, 0, (.slice none 0 0), []) ⟨h.cn _, hs⟩
def dU (x8 : List Ins) (qJ : List Ins → Option (List Ins)) (x34 : List Ins) : Option (List Ins) :=
  gz (Room 56 x8 x34) (qJ (x8 ++ x34))
def nQ (x32 : List Ins) (c : Int) (d : Int) (x8 : List Ins) (zQ : List Ins) (OC : List Ins) (qJ : List Ins → Option (List Ins)) (x90 : Int) : Option (List Ins) :=
  gz (Room 56 x32 [(⟨13, c, (((((d + (x8.length : Int)) + (x32.length : Int)) + 1) + (zQ.length : Int)) + 1), 0, []⟩ : Ins)]) (gz (Room 56 (x32 ++ [(⟨13, c, (((((d + (x8.length : Int)) + (x32.length : Int)) + 1) + (zQ.length : Int)) + 1), 0, []⟩ : Ins)]) zQ) (gz (Room 56 ((x32 ++ [(⟨13, c, (((((d + (x8.length : Int)) + (x32.length : Int)) + 1) + (zQ.length : Int)) + 1), 0, []⟩ : Ins)]) ++ zQ) [(⟨12, 0, x90, 0, []⟩ : Ins)]) (gz (Room 56 (((x32 ++ [(⟨13, c, (((((d + (x8.length : Int)) + (x32.length : Int)) + 1) + (zQ.length : Int)) + 1), 0, []⟩ : Ins)]) ++ zQ) ++ [(⟨12, 0, x90, 0, []⟩ : Ins)]) OC) (dU x8 qJ ((((x32 ++ [(⟨13, c, (((((d + (x8.length : Int)) + (x32.length : Int)) + 1) + (zQ.length : Int)) + 1), 0, []⟩ : Ins)]) ++ zQ) ++ [(⟨12, 0, x90, 0, []⟩ : Ins)]) ++ OC)))))
def nR (F0 : List bF → List eO → Int → Int → Option (List Ins)) (d : Int) (x8 : List Ins) (x32 : List Ins) (fQ : bF) (a : List bF) (b : List eO) (c : Int) (qJ : List Ins → Option (List Ins)) (x69 : Bool) : Option (List Ins) :=
  bif x69 then gz (jA ((d + (x8.length : Int)) + (x32.length : Int))) (gz (jA (((d + (x8.length : Int)) + (x32.length : Int)) + 1)) ((F0 fQ.a b c (((d + (x8.length : Int)) + (x32.length : Int)) + 1)).bind fun zQ => gz (jA ((d + (x8.length : Int)) + (x32.length : Int))) (gz (jA (((d + (x8.length : Int)) + (x32.length : Int)) + 1)) (gz (jA ((((d + (x8.length : Int)) + (x32.length : Int)) + 1) + (zQ.length : Int))) (gz (jA (((((d + (x8.length : Int)) + (x32.length : Int)) + 1) + (zQ.length : Int)) + 1)) ((F0 fQ.b b c (((((d + (x8.length : Int)) + (x32.length : Int)) + 1) + (zQ.length : Int)) + 1)).bind fun OC => gz (jA ((((((d + (x8.length : Int)) + (x32.length : Int)) + 1) + (zQ.length : Int)) + 1) + (OC.length : Int))) (bif decide ((fQ.kind : Int) = 7) then nQ x32 c d x8 zQ OC qJ (d + (x8.length : Int)) else nQ x32 c d x8 zQ OC qJ ((((((d + (x8.length : Int)) + (x32.length : Int)) + 1) + (zQ.length : Int)) + 1) + (OC.length : Int))))))))) else dU x8 qJ x32
def nS (N : Nat) (F0 : List bF → List eO → Int → Int → Option (List Ins)) (fQ : bF) (c : Int) (x8 : List Ins) (qJ : List Ins → Option (List Ins)) (b : List eO) (d : Int) (a : List bF) (x32 : List Ins) : Option (List Ins) :=
  bif decide ((fQ.kind : Int) = 1) then gz (Room 56 x32 [(⟨2, fQ.n, c, 0, []⟩ : Ins)]) (dU x8 qJ (x32 ++ [(⟨2, fQ.n, c, 0, []⟩ : Ins)])) else bif decide ((fQ.kind : Int) = 2) then gz (jA (c + 1)) ((jy N fQ.f b (c + 1)).bind fun zf => gz (jA (c + 1)) (gz (Room 56 x32 zf.1) (gz (Room 56 (x32 ++ zf.1) [(⟨6, c, (c + 1), fQ.n, []⟩ : Ins)]) (dU x8 qJ ((x32 ++ zf.1) ++ [(⟨6, c, (c + 1), fQ.n, []⟩ : Ins)]))))) else bif decide ((fQ.kind : Int) = 3) then gz (Room 56 x32 [(⟨9, c, 0, 0, []⟩ : Ins)]) (dU x8 qJ (x32 ++ [(⟨9, c, 0, 0, []⟩ : Ins)])) else bif decide ((fQ.kind : Int) = 4) then gz (Room 56 x32 [(⟨10, 0, 0, 0, []⟩ : Ins)]) (dU x8 qJ (x32 ++ [(⟨10, 0, 0, 0, []⟩ : Ins)])) else bif decide ((fQ.kind : Int) = 5) then gz (Room 56 x32 [(⟨11, c, 0, 0, []⟩ : Ins)]) (dU x8 qJ (x32 ++ [(⟨11, c, 0, 0, []⟩ : Ins)])) else bif decide ((fQ.kind : Int) = 8) then gz (Room 56 x32 [(⟨8, c, 0, 0, []⟩ : Ins)]) (dU x8 qJ (x32 ++ [(⟨8, c, 0, 0, []⟩ : Ins)])) else bif decide ((fQ.kind : Int) = 6) then nR F0 d x8 x32 fQ a b c qJ (decide ((fQ.kind : Int) = 6)) else nR F0 d x8 x32 fQ a b c qJ (decide ((fQ.kind : Int) = 7))
def nT (N : Nat) (F0 : List bF → List eO → Int → Int → Option (List Ins)) (d : Int) (b : List eO) (c : Int) (a : List bF) (fQ : bF) (x8 : List Ins) (qJ : List Ins → Option (List Ins)) : Option (List Ins) :=
  gz (jA (d + (x8.length : Int))) (bif decide ((0 : Int) < (fQ.e.length : Int)) then (jy N fQ.e b c).bind fun y104 => nS N F0 fQ c x8 qJ b d a y104.1 else nS N F0 fQ c x8 qJ b d a [])
def nU (x8 : List Ins) : Option (List Ins) :=
  some x8
def uM (N : Nat) (F0 : List bF → List eO → Int → Int → Option (List Ins)) (a : List bF) (b : List eO) (c : Int) (d : Int) : Option (List Ins) :=
  each (nT N F0 d b c a) nU a []
def kZ : Nat → List bF → List eO → Int → Int → Option (List Ins)
  | 0 => fun _ _ _ _ => none
  | N + 1 => uM N (kZ N)
theorem uN : ∀ (N : Nat) (w0 : World) (M : BS) (hM : ∀ b, M b → b < w0.heap.size) (va : Value) (a : List bF) (ha : gp dY w0 BE M va a) (vb : Value) (b : List eO) (hb : gp iH w0 BE M vb b) (c : Int) (d : Int) (r : List Ins) (hs : kZ N a b c d = some r),
    Calls Tryz.prog 76 #[va, vb, (.int .i64 (c)), (.int .i64 (d))] w0 (fun e w' => Grow w0 w' ∧ ∃ u0, e = .returned (u0) ∧ dL jm 93 w' M u0 r ∧ (∀ b, ob u0 b → w0.heap.size ≤ b)) := by
 intro N
 induction N with
 | zero => intro w0 M hM va a ha vb b hb c d r hs; cases hs
 | succ N ih =>
 intro w0 M hM va a ha vb b hb c d r hs
 replace hs : uM N (kZ N) a b c d = some r := hs
 generalize kZ N = F0 at hs ih
 refine aS (args := [va, vb, (.int .i64 (c)), (.int .i64 (d))]) Tryz.func76 rfl Tryz.ntmps76 (Nat.le_of_ble_eq_true rfl) ?_
 have h := SH.init hM
 replace h := h.il 1 ha bR
 replace h := h.il 2 hb (eT bR)
 have u7 := ha.cO
 have MO := hb.cO
 refine ai (ag (ae (aj (v := (.slice none 0 0)) rfl) (ah (aa (ai (ag (ae (aj (v := (.slice none 0 0)) rfl) (ah (aa (ai (ai (ag (ae (au (v := va) rfl) (ae (bY kC rfl (h.je 1 rfl)) (ae (au (v := (.int .i64 (0))) rfl) (ah (aa (aV ?_))))))))))))))))))
 replace h := h.xO (R := jm) (E := 93) 6
 refine gT (σ := Nat × Int × Value × List Ins) (inl [9, 11, 12, 13, 14, 15, 16, 17, 18, 19, 22, 23, 24, 25, 26, 27, 28, 29, 30, 31, 32, 33, 34, 35, 36, 37, 38, 39, 40, 41, 42, 43, 44, 45, 46, 47, 48, 49, 50, 51, 52, 53, 54, 55, 56, 57, 58, 59, 60, 61, 62, 63, 64, 65, 66, 67, 68, 69, 70, 71, 72, 73, 74, 75, 76, 77, 78, 79, 80, 81, 82, 83, 84, 85, 86, 87, 88, 89, 90, 91, 92, 93, 94, 95, 96, 97, 98, 99, 100, 101, 102, 103, 104, 105, 106, 107, 108, 109, 110, 111, 112, 113, 114, 115, 116, 117, 118, 119, 120, 121, 122, 123, 124, 125, 126, 127, 128, 129, 130, 131, 132, 133, 134, 135, 136, 137, 138, 139, 140, 141, 142, 143, 144, 145, 146, 147, 148, 149, 150, 151, 152, 153, 154, 155]) (fun ⟨k9, i10, v7, x8⟩ => [(9, v7), (22, (.int .i64 (i10)))]) (fun ⟨k9, i10, v7, x8⟩ w => SH w0 M BE w (hset [(1, .sr dY va a), (2, .sr iH vb b), (6, .own jm 93 v7 x8)]) ∧ i10 = (k9 : Int) ∧ each (nT N F0 d b c a) nU (a.drop k9) x8 = some r) (fun ⟨k9, i10, v7, x8⟩ => a.length - k9) ⟨0, 0, (.slice none 0 0), []⟩ ⟨rfl, rfl, trivial⟩ ?_ ?_
 exact ⟨h.cn _, rfl, hs⟩
 rintro ⟨k9, i10, v7, x8⟩ w dz ⟨h, hik, hs⟩
 refine ai (ag ?_)
 refine ae (dN rfl rfl) (ah (aa ?_))
 refine ai (iJ rfl (fun e14 => ?_) (fun e14 => ?_))
 refine aG (aa ?_)
 obtain ⟨fQ, Sd, Sg⟩ := gL (hik ▸ e14)
 rw [Sg, dO] at hs
 generalize Lc : each (nT N F0 d b c a) nU (a.drop (k9 + 1)) = qJ at hs
 have Si := gP ((h.je 1 rfl)).cO hik e14
 refine ai (aV (ai (ag ?_)))
 obtain ⟨b17, o18, Xw, h, Ve, i16⟩ := h.Bt 1 7 rfl kC rfl (jl hik) (gN hik Sd)
 obtain ⟨u21, u23, u25, u27, rfl, g22, g24, g26, g28⟩ := yU Ve
 replace h := h.cZ 8 g22.up
 replace h := h.cZ 9 g24.up.up
 replace h := h.cZ 10 g26.up.up.up
 replace h := h.cZ 11 g28.up.up.up.up
 refine ae (i16 _ _ _ _ _ _ _ _ _ rfl rfl) (ae (jW (k := 0) (vs := [(.int .i64 (fQ.kind)), (.int .i64 (fQ.n)), u21, u23, u25, u27]) h 7 rfl nH rfl rfl rfl (Nat.le_of_ble_eq_true rfl)) (bT h 12 nH fun w b29 h => dm (vs := [(.int .i64 (fQ.kind)), (.int .i64 (fQ.n)), u21, u23, u25, u27]) h 12 [(.int .i64 (fQ.kind)), (.int .i64 (fQ.n)), u21, u23, u25, u27] rfl nH rfl rfl rfl rfl rfl (ax rfl (ax rfl (ax (h.gB 8 rfl).one (ax (h.gB 9 rfl).one (ax (h.gB 10 rfl).one (ax (h.gB 11 rfl).one aZ)))))) fun w h => ah (aa (ai (ag (ae (au (v := (.int .i64 (d))) rfl) (ae (au (v := v7) rfl) (ae (bY jg rfl (h.dM 6 rfl)) ?_))))))))
 obtain ⟨a30, hs⟩ := bG hs
 refine ae (dw rfl rfl a30) (ae (aj (v := (.int .i64 ((d + (x8.length : Int))))) rfl) (ah (aa (ai (ag (ae (aj (v := (.slice none 0 0)) rfl) (ah (aa (bV (σ := Value × List Ins) (inl [13, 30, 31, 32, 33, 34, 35, 36, 37, 38, 39, 40, 41]) (fun ⟨v31, x32⟩ => [(13, v31)]) (fun ⟨v31, x32⟩ w => SH w0 M BE w (hset [(1, .sr dY va a), (2, .sr iH vb b), (6, .own jm 93 v7 x8), (8, .rd jY u21 fQ.e), (9, .rd jY u23 fQ.f), (10, .rd dY u25 fQ.a), (11, .rd dY u27 fQ.b), (12, .blk b29 [(.int .i64 (fQ.kind)), (.int .i64 (fQ.n)), u21, u23, u25, u27]), (13, .own jm 93 v31 x32)]) ∧ nS N F0 fQ c x8 qJ b d a x32 = some r) ?_ ?_)))))))))
 rintro ⟨v31, x32⟩ w dz ⟨h, hs⟩
 refine bV (σ := Value × List Ins) (inl [13, 14, 15, 16, 17, 18, 19, 42, 43, 44, 45, 46, 47, 48, 49, 50, 51, 52, 53, 54, 55, 56, 57, 58, 59, 60, 61, 62, 63, 64, 65, 66, 67, 68, 69, 70, 71, 72, 73, 74, 75, 76, 77, 78, 79, 80, 81, 82, 83, 84, 85, 86, 87, 88, 89, 90, 91, 92, 93, 94, 95, 96, 97, 98, 99, 100, 101, 102, 103, 104, 105, 106, 107, 108, 109, 110, 111, 112, 113, 114, 115, 116, 117, 118, 119, 120, 121, 122, 123, 124, 125, 126, 127, 128, 129, 130, 131, 132, 133, 134, 135, 136, 137, 138, 139, 140, 141, 142, 143, 144, 145, 146, 147, 148, 149, 150, 151]) (fun ⟨v33, x34⟩ => [(13, v33)]) (fun ⟨v33, x34⟩ w => SH w0 M BE w (hset [(1, .sr dY va a), (2, .sr iH vb b), (6, .own jm 93 v7 x8), (13, .own jm 93 v33 x34)]) ∧ dU x8 qJ x34 = some r) ?_ ?_
 rintro ⟨v33, x34⟩ w dz ⟨h, hs⟩
 refine ag (ae (au (v := v7) rfl) (ae (au (v := v33) rfl) ?_))
 obtain ⟨a35, hs⟩ := bG hs
 refine mo (R := jm) (m := x34) h 6 rfl (h.dM 13 rfl) eG rfl rfl rfl a35.1 a35.2 fun w u36 h => ae (aj (v := u36) rfl) (ah (aA (aa (ag (ae (dw rfl rfl Si) (ae (au (v := (.int .i64 ((i10 + 1)))) rfl) (ah (az ?_))))))))
 subst Lc
 exact jV ⟨k9 + 1, i10 + 1, u36, (x8 ++ x34)⟩ ⟨h.cn _, by omega, hs⟩ (by have := of_decide_eq_true e14; dsimp only; omega)
 refine ai (ag (ae (ak jB rfl) (ae (aF h 12 rfl bz rfl rfl) (ah (aa (aV (ai (ag (ae (bI rfl rfl) (ae (aj (v := (.bool (decide ((fQ.kind : Int) = 1)))) rfl) (ah (aa (aI hs rfl (fun c37 hs => ?_) (fun c37 hs => ?_))))))))))))))
 refine ag (ae (au (v := v31) rfl) (ae (ak uB rfl) (ae (aF h 12 rfl bz rfl rfl) (ae (au (v := (.int .i64 (c))) rfl) (ae (dC (pv := [(0, (.int .i64 (2))), (1, (.int .i64 (fQ.n))), (2, (.int .i64 (c)))]) (out := [(.int .i64 (2)), (.int .i64 (fQ.n)), (.int .i64 (c)), (.int .i64 (0)), (.slice none 0 0)]) lZ rfl ⟨0, 1, [(.int .i64 (2))], rfl, rfl, rfl, Nat.le_of_ble_eq_true rfl, ⟨1, 1, [(.int .i64 (fQ.n))], rfl, rfl, rfl, Nat.le_of_ble_eq_true rfl, ⟨2, 1, [(.int .i64 (c))], rfl, rfl, rfl, Nat.le_of_ble_eq_true rfl, rfl⟩⟩⟩) (uw (R := jm) (vs := [(.agg #[(.int .i64 (2)), (.int .i64 (fQ.n)), (.int .i64 (c)), (.int .i64 (0)), (.slice none 0 0)])]) (xs := [(⟨2, fQ.n, c, 0, []⟩ : Ins)]) h 14 eG rfl rfl rfl ⟨⟨_, rfl, gp.nil⟩, trivial⟩ rfl fun w u38 h => ?_))))))
 obtain ⟨a39, hs⟩ := bG hs
 refine mo (R := jm) (m := [(⟨2, fQ.n, c, 0, []⟩ : Ins)]) h 13 rfl (h.dM 14 rfl) eG rfl rfl rfl a39.1 a39.2 fun w u40 h => ae (aj (v := u40) rfl) (ah (aA (az ?_)))
 exact bQ (u40, (x32 ++ [(⟨2, fQ.n, c, 0, []⟩ : Ins)])) ⟨h.cn _, hs⟩
 refine ai (ag (ae (bI rfl rfl) (ae (aj (v := (.bool (decide ((fQ.kind : Int) = 2)))) rfl) (ah (aa (aI hs rfl (fun Xt hs => ?_) (fun Xt hs => ?_)))))))
 refine ai (ag (ae (ak Ac rfl) (ae (aF h 12 rfl wD rfl rfl) (ae (au (v := vb) rfl) (ae (au (v := (.int .i64 (c))) rfl) ?_)))))
 obtain ⟨a42, hs⟩ := bG hs
 refine ae (dw rfl rfl a42) ?_
 obtain ⟨zf, e44, hs⟩ := aQ hs
 refine bA JS rfl rfl (uL N _ _ h.lt u23 fQ.f (h.oZ 9 rfl) vb b (h.je 2 rfl) (c + 1) _ e44) ?_
 rintro _ w ⟨k48, u45, rfl, g46, g47⟩
 refine ⟨_, rfl, ?_⟩
 replace h := h.jM 15 k48 g46 g47
 refine ae (au (v := (.tuple #[u45, (.int .i64 (zf.2))])) rfl) (ae (bC rfl rfl) (ae (bC rfl rfl) (ae (aj (v := u45) rfl) (ae (aj (v := (.int .i64 (zf.2))) rfl) (ah (aa (lY (L := (ob v31)) mixed h fun w h => bg 0 (aP.refl _ _) rfl ay (by kernel_rfl) (by kernel_rfl) (by kernel_rfl) (fun w hk => au (v := v31) rfl) (bg 1 (aP.refl _ _) rfl ay (by kernel_rfl) (by kernel_rfl) (by kernel_rfl) (fun w hk => au (v := u45) rfl) (bg 3 (aP.refl _ _) rfl ay (by kernel_rfl) (by kernel_rfl) (by kernel_rfl) (fun w hk => au (v := (.int .i64 (c))) rfl) (bg 4 (aP.refl _ _) rfl ay (by kernel_rfl) (by kernel_rfl) (by kernel_rfl) (fun w hk => au (v := (.int .i64 (c))) rfl) ?_))))))))))
 obtain ⟨SF, hs⟩ := bG hs
 refine bg 5 (aP.refl _ _) rfl ay (by kernel_rfl) (by kernel_rfl) (by kernel_rfl) (fun w hk => dw rfl rfl SF) (bg 6 (aP.refl _ _) rfl ay (by kernel_rfl) (by kernel_rfl) (by kernel_rfl) (fun w hk => ak uB rfl) (bg 7 (aP.refl _ _) rfl ay (by kernel_rfl) (by kernel_rfl) (by kernel_rfl) (fun w hk => have h := h.qN 13 rfl hk; aF h 12 rfl bz rfl rfl) (bg 8 (aP.refl _ _) rfl ay (by kernel_rfl) (by kernel_rfl) (by kernel_rfl) (fun w hk => dC (pv := [(0, (.int .i64 (6))), (1, (.int .i64 (c))), (2, (.int .i64 ((c + 1)))), (3, (.int .i64 (fQ.n)))]) (out := [(.int .i64 (6)), (.int .i64 (c)), (.int .i64 ((c + 1))), (.int .i64 (fQ.n)), (.slice none 0 0)]) lZ rfl ⟨0, 1, [(.int .i64 (6))], rfl, rfl, rfl, Nat.le_of_ble_eq_true rfl, ⟨1, 1, [(.int .i64 (c))], rfl, rfl, rfl, Nat.le_of_ble_eq_true rfl, ⟨2, 1, [(.int .i64 ((c + 1)))], rfl, rfl, rfl, Nat.le_of_ble_eq_true rfl, ⟨3, 1, [(.int .i64 (fQ.n))], rfl, rfl, rfl, Nat.le_of_ble_eq_true rfl, rfl⟩⟩⟩⟩) ?_)))
 obtain ⟨De, hs⟩ := bG hs
 obtain ⟨Ba, hs⟩ := bG hs
 obtain ⟨Nf, V7⟩ : ∃ x, x = w := ⟨_, rfl⟩
 have rW : aP (ob v31) Nf w := V7 ▸ aP.refl (ob v31) w
 refine sj V7.symm (om 2 9 (by kernel_rfl) rfl ay rfl ay ?_ ?_)
 have PR := rW.size
 refine oN (R := jm) (m := zf.1) h 13 rfl (h.dM 15 rfl) eG rfl rfl rfl De.1 De.2 fun w Gr h D9 Ea => ?_
 have yo : ∀ b, ob Gr b → b < Nf.heap.size → ob v31 b := fun b hb hl => Ea b hb (Nat.lt_of_lt_of_le hl (rW).size)
 replace rW := rW.same D9
 refine ah (aX rW (bN 9 (by kernel_rfl) rfl ay (zB (R := jm) (vs := [(.agg #[(.int .i64 (6)), (.int .i64 (c)), (.int .i64 ((c + 1))), (.int .i64 (fQ.n)), (.slice none 0 0)])]) (xs := [(⟨6, c, (c + 1), fQ.n, []⟩ : Ins)]) h 124 eG rfl rfl rfl ⟨⟨_, rfl, gp.nil⟩, trivial⟩ rfl fun w Gs h Eb Ec => ?_)))
 have PS : ∀ b, ob Gs b → Nf.heap.size ≤ b := fun b hb => Nat.le_trans rW.size (Ec b hb)
 replace rW := rW.grow Eb
 refine ah (aX rW (bN 10 (by kernel_rfl) rfl ay ?_))
 have Ng := rW.size
 refine oN (R := jm) (m := [(⟨6, c, (c + 1), fQ.n, []⟩ : Ins)]) h 13 rfl (h.dM 124 rfl) eG rfl rfl rfl Ba.1 Ba.2 fun w tV h BQ BR => ?_
 have Nh : ∀ b, ob tV b → b < Nf.heap.size → ob v31 b := fun b hb hl => yo b (BR b hb (Nat.lt_of_lt_of_le hl (rW).size)) hl
 replace rW := aP.step rW BQ (fun x hx hl => yo x hx hl)
 refine ah (aX rW (bg 11 rW rfl ay (by kernel_rfl) (by kernel_rfl) (by kernel_rfl) (fun w hk => aj (v := tV) rfl) (fU (by kernel_rfl) (aA (az ?_)))))
 exact bQ (tV, ((x32 ++ zf.1) ++ [(⟨6, c, (c + 1), fQ.n, []⟩ : Ins)])) ⟨h.cn _, hs⟩
 refine zB (R := jm) (vs := [(.agg #[(.int .i64 (6)), (.int .i64 (c)), (.int .i64 ((c + 1))), (.int .i64 (fQ.n)), (.slice none 0 0)])]) (xs := [(⟨6, c, (c + 1), fQ.n, []⟩ : Ins)]) h 124 eG rfl rfl rfl ⟨⟨_, rfl, gp.nil⟩, trivial⟩ rfl fun w Gs h Eb Ec => ?_
 have PS : ∀ b, ob Gs b → Nf.heap.size ≤ b := fun b hb => Nat.le_trans rW.size (Ec b hb)
 replace rW := rW.grow Eb
 refine ah (aX rW (bN 2 (by kernel_rfl) rfl ay ?_))
 have PR := rW.size
 refine oN (R := jm) (m := zf.1) h 13 rfl (h.dM 15 rfl) eG rfl rfl rfl De.1 De.2 fun w Gr h D9 Ea => ?_
 have yo : ∀ b, ob Gr b → b < Nf.heap.size → ob v31 b := fun b hb hl => Ea b hb (Nat.lt_of_lt_of_le hl (rW).size)
 replace rW := rW.same D9
 refine ah (aX rW (bN 10 (by kernel_rfl) rfl ay ?_))
 have Ng := rW.size
 refine oN (R := jm) (m := [(⟨6, c, (c + 1), fQ.n, []⟩ : Ins)]) h 13 rfl (h.dM 124 rfl) eG rfl rfl rfl Ba.1 Ba.2 fun w tV h BQ BR => ?_
 have Nh : ∀ b, ob tV b → b < Nf.heap.size → ob v31 b := fun b hb hl => yo b (BR b hb (Nat.lt_of_lt_of_le hl (rW).size)) hl
 replace rW := aP.step rW BQ (fun x hx hl => yo x hx hl)
 refine ah (aX rW (bg 11 rW rfl ay (by kernel_rfl) (by kernel_rfl) (by kernel_rfl) (fun w hk => aj (v := tV) rfl) (fU (by kernel_rfl) (aA (az ?_)))))
 exact bQ (tV, ((x32 ++ zf.1) ++ [(⟨6, c, (c + 1), fQ.n, []⟩ : Ins)])) ⟨h.cn _, hs⟩
 refine ai (ag (ae (bI rfl rfl) (ae (aj (v := (.bool (decide ((fQ.kind : Int) = 3)))) rfl) (ah (aa (aI hs rfl (fun c53 hs => ?_) (fun c53 hs => ?_)))))))
 refine ag (ae (au (v := v31) rfl) (ae (au (v := (.int .i64 (c))) rfl) (ae (dC (pv := [(0, (.int .i64 (9))), (1, (.int .i64 (c)))]) (out := [(.int .i64 (9)), (.int .i64 (c)), (.int .i64 (0)), (.int .i64 (0)), (.slice none 0 0)]) lZ rfl ⟨0, 1, [(.int .i64 (9))], rfl, rfl, rfl, Nat.le_of_ble_eq_true rfl, ⟨1, 1, [(.int .i64 (c))], rfl, rfl, rfl, Nat.le_of_ble_eq_true rfl, rfl⟩⟩) (uw (R := jm) (vs := [(.agg #[(.int .i64 (9)), (.int .i64 (c)), (.int .i64 (0)), (.int .i64 (0)), (.slice none 0 0)])]) (xs := [(⟨9, c, 0, 0, []⟩ : Ins)]) h 172 eG rfl rfl rfl ⟨⟨_, rfl, gp.nil⟩, trivial⟩ rfl fun w Yy h => ?_))))
 obtain ⟨a55, hs⟩ := bG hs
 refine mo (R := jm) (m := [(⟨9, c, 0, 0, []⟩ : Ins)]) h 13 rfl (h.dM 172 rfl) eG rfl rfl rfl a55.1 a55.2 fun w u56 h => ae (aj (v := u56) rfl) (ah (aA (az ?_)))
 exact bQ (u56, (x32 ++ [(⟨9, c, 0, 0, []⟩ : Ins)])) ⟨h.cn _, hs⟩
 refine ai (ag (ae (bI rfl rfl) (ae (aj (v := (.bool (decide ((fQ.kind : Int) = 4)))) rfl) (ah (aa (aI hs rfl (fun c57 hs => ?_) (fun c57 hs => ?_)))))))
 refine ag (ae (au (v := v31) rfl) (ae (dC (pv := [(0, (.int .i64 (10)))]) (out := [(.int .i64 (10)), (.int .i64 (0)), (.int .i64 (0)), (.int .i64 (0)), (.slice none 0 0)]) lZ rfl ⟨0, 1, [(.int .i64 (10))], rfl, rfl, rfl, Nat.le_of_ble_eq_true rfl, rfl⟩) (uw (R := jm) (vs := [(.agg #[(.int .i64 (10)), (.int .i64 (0)), (.int .i64 (0)), (.int .i64 (0)), (.slice none 0 0)])]) (xs := [(⟨10, 0, 0, 0, []⟩ : Ins)]) h 173 eG rfl rfl rfl ⟨⟨_, rfl, gp.nil⟩, trivial⟩ rfl fun w u58 h => ?_)))
 obtain ⟨a59, hs⟩ := bG hs
 refine mo (R := jm) (m := [(⟨10, 0, 0, 0, []⟩ : Ins)]) h 13 rfl (h.dM 173 rfl) eG rfl rfl rfl a59.1 a59.2 fun w u60 h => ae (aj (v := u60) rfl) (ah (aA (az ?_)))
 exact bQ (u60, (x32 ++ [(⟨10, 0, 0, 0, []⟩ : Ins)])) ⟨h.cn _, hs⟩
 refine ai (ag (ae (bI rfl rfl) (ae (aj (v := (.bool (decide ((fQ.kind : Int) = 5)))) rfl) (ah (aa (aI hs rfl (fun c61 hs => ?_) (fun c61 hs => ?_)))))))
 refine ag (ae (au (v := v31) rfl) (ae (au (v := (.int .i64 (c))) rfl) (ae (dC (pv := [(0, (.int .i64 (11))), (1, (.int .i64 (c)))]) (out := [(.int .i64 (11)), (.int .i64 (c)), (.int .i64 (0)), (.int .i64 (0)), (.slice none 0 0)]) lZ rfl ⟨0, 1, [(.int .i64 (11))], rfl, rfl, rfl, Nat.le_of_ble_eq_true rfl, ⟨1, 1, [(.int .i64 (c))], rfl, rfl, rfl, Nat.le_of_ble_eq_true rfl, rfl⟩⟩) (uw (R := jm) (vs := [(.agg #[(.int .i64 (11)), (.int .i64 (c)), (.int .i64 (0)), (.int .i64 (0)), (.slice none 0 0)])]) (xs := [(⟨11, c, 0, 0, []⟩ : Ins)]) h 174 eG rfl rfl rfl ⟨⟨_, rfl, gp.nil⟩, trivial⟩ rfl fun w Yq h => ?_))))
 obtain ⟨a63, hs⟩ := bG hs
 refine mo (R := jm) (m := [(⟨11, c, 0, 0, []⟩ : Ins)]) h 13 rfl (h.dM 174 rfl) eG rfl rfl rfl a63.1 a63.2 fun w u64 h => ae (aj (v := u64) rfl) (ah (aA (az ?_)))
 exact bQ (u64, (x32 ++ [(⟨11, c, 0, 0, []⟩ : Ins)])) ⟨h.cn _, hs⟩
 refine ai (ag (ae (bI rfl rfl) (ae (aj (v := (.bool (decide ((fQ.kind : Int) = 8)))) rfl) (ah (aa (aI hs rfl (fun vg hs => ?_) (fun vg hs => ?_)))))))
 refine ag (ae (au (v := v31) rfl) (ae (au (v := (.int .i64 (c))) rfl) (ae (dC (pv := [(0, (.int .i64 (8))), (1, (.int .i64 (c)))]) (out := [(.int .i64 (8)), (.int .i64 (c)), (.int .i64 (0)), (.int .i64 (0)), (.slice none 0 0)]) lZ rfl ⟨0, 1, [(.int .i64 (8))], rfl, rfl, rfl, Nat.le_of_ble_eq_true rfl, ⟨1, 1, [(.int .i64 (c))], rfl, rfl, rfl, Nat.le_of_ble_eq_true rfl, rfl⟩⟩) (uw (R := jm) (vs := [(.agg #[(.int .i64 (8)), (.int .i64 (c)), (.int .i64 (0)), (.int .i64 (0)), (.slice none 0 0)])]) (xs := [(⟨8, c, 0, 0, []⟩ : Ins)]) h 175 eG rfl rfl rfl ⟨⟨_, rfl, gp.nil⟩, trivial⟩ rfl fun w u66 h => ?_))))
 obtain ⟨a67, hs⟩ := bG hs
 refine mo (R := jm) (m := [(⟨8, c, 0, 0, []⟩ : Ins)]) h 13 rfl (h.dM 175 rfl) eG rfl rfl rfl a67.1 a67.2 fun w u68 h => ae (aj (v := u68) rfl) (ah (aA (az ?_)))
 exact bQ (u68, (x32 ++ [(⟨8, c, 0, 0, []⟩ : Ins)])) ⟨h.cn _, hs⟩
 refine bV (σ := Bool) (inl [102, 103, 104]) (fun x69 => [(102, (.bool (x69)))]) (fun x69 w => SH w0 M BE w (hset [(1, .sr dY va a), (2, .sr iH vb b), (6, .own jm 93 v7 x8), (8, .rd jY u21 fQ.e), (9, .rd jY u23 fQ.f), (10, .rd dY u25 fQ.a), (11, .rd dY u27 fQ.b), (12, .blk b29 [(.int .i64 (fQ.kind)), (.int .i64 (fQ.n)), u21, u23, u25, u27]), (13, .own jm 93 v31 x32)]) ∧ nR F0 d x8 x32 fQ a b c qJ x69 = some r) ?_ ?_
 rintro x69 w dz ⟨h, hs⟩
 refine aI hs rfl (fun c70 hs => ?_) (fun c70 hs => ?_)
 refine ai (ag (ae (ak xW rfl) (ae (aF h 12 rfl oD rfl rfl) (ae (au (v := vb) rfl) (ae (au (v := (.int .i64 (c))) rfl) (ae (au (v := (.int .i64 ((d + (x8.length : Int))))) rfl) (ae (au (v := v31) rfl) (ae (bY jg rfl (h.dM 13 rfl)) ?_))))))))
 obtain ⟨a71, hs⟩ := bG hs
 refine ae (dw rfl rfl a71) ?_
 obtain ⟨a72, hs⟩ := bG hs
 refine ae (dw rfl rfl a72) ?_
 obtain ⟨zQ, e74, hs⟩ := aQ hs
 refine bA J3 rfl rfl (ih _ _ h.lt u25 fQ.a (h.oZ 10 rfl) vb b (h.je 2 rfl) c (((d + (x8.length : Int)) + (x32.length : Int)) + 1) _ e74) ?_
 rintro _ w ⟨k78, u75, rfl, g76, g77⟩
 refine ⟨_, rfl, ?_⟩
 replace h := h.jM 176 k78 g76 g77
 refine ae (aj (v := u75) rfl) (ah (aa (ai (ag (ae (au (v := (.int .i64 ((d + (x8.length : Int))))) rfl) (ae (au (v := v31) rfl) (ae (bY jg rfl (h.dM 13 rfl)) ?_)))))))
 obtain ⟨a79, hs⟩ := bG hs
 refine ae (dw rfl rfl a79) ?_
 obtain ⟨a80, hs⟩ := bG hs
 refine ae (dw rfl rfl a80) (ae (au (v := u75) rfl) (ae (bY jg rfl (h.dM 176 rfl)) ?_))
 obtain ⟨a81, hs⟩ := bG hs
 refine ae (dw rfl rfl a81) ?_
 obtain ⟨a82, hs⟩ := bG hs
 refine ae (dw rfl rfl a82) (ae (aj (v := (.int .i64 ((((((d + (x8.length : Int)) + (x32.length : Int)) + 1) + (zQ.length : Int)) + 1)))) rfl) (ah (aa (ai (ag (ae (ak xX rfl) (ae (aF h 12 rfl oD rfl rfl) (ae (au (v := vb) rfl) (ae (au (v := (.int .i64 (c))) rfl) (ae (au (v := (.int .i64 ((((((d + (x8.length : Int)) + (x32.length : Int)) + 1) + (zQ.length : Int)) + 1)))) rfl) ?_))))))))))
 obtain ⟨OC, e84, hs⟩ := aQ hs
 refine bA J3 rfl rfl (ih _ _ h.lt u27 fQ.b (h.oZ 11 rfl) vb b (h.je 2 rfl) c (((((d + (x8.length : Int)) + (x32.length : Int)) + 1) + (zQ.length : Int)) + 1) _ e84) ?_
 rintro _ w ⟨k88, u85, rfl, g86, g87⟩
 refine ⟨_, rfl, ?_⟩
 replace h := h.jM 177 k88 g86 g87
 refine ae (aj (v := u85) rfl) (ah (aa (ai (ag (ae (au (v := (.int .i64 ((((((d + (x8.length : Int)) + (x32.length : Int)) + 1) + (zQ.length : Int)) + 1)))) rfl) (ae (au (v := u85) rfl) (ae (bY jg rfl (h.dM 177 rfl)) ?_)))))))
 obtain ⟨a89, hs⟩ := bG hs
 refine ae (dw rfl rfl a89) (ae (aj (v := (.int .i64 (((((((d + (x8.length : Int)) + (x32.length : Int)) + 1) + (zQ.length : Int)) + 1) + (OC.length : Int))))) rfl) (ah (aa (bV (σ := Int) (inl [19, 134, 135, 136, 137]) (fun x90 => [(19, (.int .i64 (x90)))]) (fun x90 w => SH w0 M BE w (hset [(1, .sr dY va a), (2, .sr iH vb b), (6, .own jm 93 v7 x8), (13, .own jm 93 v31 x32), (176, .own jm 93 u75 zQ), (177, .own jm 93 u85 OC)]) ∧ nQ x32 c d x8 zQ OC qJ x90 = some r) ?_ ?_))))
 rintro x90 w dz ⟨h, hs⟩
 refine ag (ae (au (v := v31) rfl) (ae (au (v := (.int .i64 (c))) rfl) (ae (au (v := (.int .i64 ((((((d + (x8.length : Int)) + (x32.length : Int)) + 1) + (zQ.length : Int)) + 1)))) rfl) (ae (dC (pv := [(0, (.int .i64 (13))), (1, (.int .i64 (c))), (2, (.int .i64 ((((((d + (x8.length : Int)) + (x32.length : Int)) + 1) + (zQ.length : Int)) + 1))))]) (out := [(.int .i64 (13)), (.int .i64 (c)), (.int .i64 ((((((d + (x8.length : Int)) + (x32.length : Int)) + 1) + (zQ.length : Int)) + 1))), (.int .i64 (0)), (.slice none 0 0)]) lZ rfl ⟨0, 1, [(.int .i64 (13))], rfl, rfl, rfl, Nat.le_of_ble_eq_true rfl, ⟨1, 1, [(.int .i64 (c))], rfl, rfl, rfl, Nat.le_of_ble_eq_true rfl, ⟨2, 1, [(.int .i64 ((((((d + (x8.length : Int)) + (x32.length : Int)) + 1) + (zQ.length : Int)) + 1)))], rfl, rfl, rfl, Nat.le_of_ble_eq_true rfl, rfl⟩⟩⟩) (uw (R := jm) (vs := [(.agg #[(.int .i64 (13)), (.int .i64 (c)), (.int .i64 ((((((d + (x8.length : Int)) + (x32.length : Int)) + 1) + (zQ.length : Int)) + 1))), (.int .i64 (0)), (.slice none 0 0)])]) (xs := [(⟨13, c, (((((d + (x8.length : Int)) + (x32.length : Int)) + 1) + (zQ.length : Int)) + 1), 0, []⟩ : Ins)]) h 178 eG rfl rfl rfl ⟨⟨_, rfl, gp.nil⟩, trivial⟩ rfl fun w XB h => ?_)))))
 obtain ⟨a92, hs⟩ := bG hs
 refine mo (R := jm) (m := [(⟨13, c, (((((d + (x8.length : Int)) + (x32.length : Int)) + 1) + (zQ.length : Int)) + 1), 0, []⟩ : Ins)]) h 13 rfl (h.dM 178 rfl) eG rfl rfl rfl a92.1 a92.2 fun w u93 h => ae (au (v := u75) rfl) ?_
 obtain ⟨a94, hs⟩ := bG hs
 refine mo (R := jm) (m := zQ) h 13 rfl (h.dM 176 rfl) eG rfl rfl rfl a94.1 a94.2 fun w u95 h => ae (au (v := (.int .i64 (x90))) rfl) (ae (dC (pv := [(0, (.int .i64 (12))), (2, (.int .i64 (x90)))]) (out := [(.int .i64 (12)), (.int .i64 (0)), (.int .i64 (x90)), (.int .i64 (0)), (.slice none 0 0)]) lZ rfl ⟨0, 1, [(.int .i64 (12))], rfl, rfl, rfl, Nat.le_of_ble_eq_true rfl, ⟨2, 1, [(.int .i64 (x90))], rfl, rfl, rfl, Nat.le_of_ble_eq_true rfl, rfl⟩⟩) (uw (R := jm) (vs := [(.agg #[(.int .i64 (12)), (.int .i64 (0)), (.int .i64 (x90)), (.int .i64 (0)), (.slice none 0 0)])]) (xs := [(⟨12, 0, x90, 0, []⟩ : Ins)]) h 179 eG rfl rfl rfl ⟨⟨_, rfl, gp.nil⟩, trivial⟩ rfl fun w u96 h => ?_))
 obtain ⟨a97, hs⟩ := bG hs
 refine mo (R := jm) (m := [(⟨12, 0, x90, 0, []⟩ : Ins)]) h 13 rfl (h.dM 179 rfl) eG rfl rfl rfl a97.1 a97.2 fun w u98 h => ae (au (v := u85) rfl) ?_
 obtain ⟨a99, hs⟩ := bG hs
 refine mo (R := jm) (m := OC) h 13 rfl (h.dM 177 rfl) eG rfl rfl rfl a99.1 a99.2 fun w Xu h => ae (aj (v := Xu) rfl) (ah (aA (az ?_)))
 exact bQ (Xu, ((((x32 ++ [(⟨13, c, (((((d + (x8.length : Int)) + (x32.length : Int)) + 1) + (zQ.length : Int)) + 1), 0, []⟩ : Ins)]) ++ zQ) ++ [(⟨12, 0, x90, 0, []⟩ : Ins)]) ++ OC)) ⟨h.cn _, hs⟩
 refine ai (ag (ae (ak jB rfl) (ae (aF h 12 rfl bz rfl rfl) (ae (bI rfl rfl) (ah (aa (aI hs rfl (fun c101 hs => ?_) (fun c101 hs => ?_))))))))
 refine ag (ae (au (v := (.int .i64 ((d + (x8.length : Int))))) rfl) (ae (aj (v := (.int .i64 ((d + (x8.length : Int))))) rfl) (ah (az ?_))))
 exact bQ (d + (x8.length : Int)) ⟨h.cn _, hs⟩
 refine aG (az ?_)
 exact bQ ((((((d + (x8.length : Int)) + (x32.length : Int)) + 1) + (zQ.length : Int)) + 1) + (OC.length : Int)) ⟨h.cn _, hs⟩
 refine aG (aA (az ?_))
 exact bQ (v31, x32) ⟨h.cn _, hs⟩
 refine ai (ag (ae (bI rfl rfl) (ae (aj (v := (.bool (decide ((fQ.kind : Int) = 6)))) rfl) (ah (aa (aI hs rfl (fun Sw hs => ?_) (fun Sw hs => ?_)))))))
 refine aG (az ?_)
 exact bQ (decide ((fQ.kind : Int) = 6)) ⟨h.cn _, hs⟩
 refine ag (ae (bI rfl rfl) (ae (aj (v := (.bool (decide ((fQ.kind : Int) = 7)))) rfl) (ah (az ?_))))
 exact bQ (decide ((fQ.kind : Int) = 7)) ⟨h.cn _, hs⟩
 refine ai (ag (ae (ak xV rfl) (ae (aF h 12 rfl wD rfl rfl) (ae (bY jP rfl (h.oZ 8 rfl)) (ae (jH rfl rfl) (ah (aa (aI hs rfl (fun XI hs => ?_) (fun XI hs => ?_)))))))))
 refine ag (ae (ak xV rfl) (ae (aF h 12 rfl wD rfl rfl) (ae (au (v := vb) rfl) (ae (au (v := (.int .i64 (c))) rfl) ?_))))
 obtain ⟨y104, J9, hs⟩ := aQ hs
 refine bA JS rfl rfl (uL N _ _ h.lt u21 fQ.e (h.oZ 8 rfl) vb b (h.je 2 rfl) c _ J9) ?_
 rintro _ w ⟨k109, Sy, rfl, ZM, g108⟩
 refine ⟨_, rfl, ?_⟩
 replace h := h.jM 180 k109 ZM g108
 refine ae (au (v := (.tuple #[Sy, (.int .i64 (y104.2))])) rfl) (ae (bC rfl rfl) (ae (bC rfl rfl) (ae (aj (v := Sy) rfl) (ah (az ?_)))))
 replace h := h.zU 180 13 rfl rfl (by decide)
 exact bQ (Sy, y104.1) ⟨h.cn _, hs⟩
 refine aG (az ?_)
 replace h := h.xO (R := jm) (E := 93) 13
 exact bQ ((.slice none 0 0), []) ⟨h.cn _, hs⟩
 rw [gM (hik ▸ e14), gU] at hs
 refine df (aN (aN (bE (aa (ai (ag (ae (au (v := v7) rfl) (ae (aj (v := v7) rfl) (ah (aa (aK (cK (v := v7) Tryz.results76 rfl ?_))))))))))))
 obtain rfl := Option.some.inj hs
 exact ⟨h.grown, _, rfl, (h.lI 6 rfl).1, (h.lI 6 rfl).2⟩
def tN (x8 : List bP) (fQ : eO) (qJ : List bP → Option (List bP)) (FT : List Ins) : Option (List bP) :=
  gz (Room 40 x8 [(⟨fQ.params, 30, FT⟩ : bP)]) (qJ (x8 ++ [(⟨fQ.params, 30, FT⟩ : bP)]))
def oI (N : Nat) (a : List eO) (fQ : eO) (x8 : List bP) (qJ : List bP → Option (List bP)) : Option (List bP) :=
  (kZ N fQ.body a fQ.locals 0).bind fun Ae => gz (Room 56 Ae [(⟨1, fQ.locals, 0, 0, []⟩ : Ins), (⟨8, fQ.locals, 0, 0, []⟩ : Ins)]) (tN x8 fQ qJ (Ae ++ [(⟨1, fQ.locals, 0, 0, []⟩ : Ins), (⟨8, fQ.locals, 0, 0, []⟩ : Ins)]))
def oJ (x8 : List bP) : Option (List bP) :=
  some x8
def xh (N : Nat) (a : List eO) : Option (List bP) :=
  each (oI N a) oJ a []
theorem Bz (N : Nat) (w0 : World) (M : BS) (hM : ∀ b, M b → b < w0.heap.size) (va : Value) (a : List eO) (ha : gp iH w0 BE M va a) (r : List bP) (hs : xh N a = some r) :
    Calls Tryz.prog 39 #[va] w0 (fun e w' => Grow w0 w' ∧ ∃ u0, e = .returned (u0) ∧ dL jI 57 w' M u0 r ∧ (∀ b, ob u0 b → w0.heap.size ≤ b)) := by
 refine aS (args := [va]) Tryz.func39 rfl Tryz.ntmps39 (Nat.le_of_ble_eq_true rfl) ?_
 have h := SH.init hM
 replace h := h.il 1 ha bR
 have u7 := ha.cO
 refine ai (ag (ae (aj (v := (.slice none 0 0)) rfl) (ah (aa (ai (ag (ae (aj (v := (.slice none 0 0)) rfl) (ah (aa (ai (ai (ag (ae (au (v := va) rfl) (ae (bY iy rfl (h.je 1 rfl)) (ae (au (v := (.int .i64 (0))) rfl) (ah (aa (aV ?_))))))))))))))))))
 replace h := h.xO (R := jI) (E := 57) 5
 refine gT (σ := Nat × Int × Value × List bP) (inl [3, 5, 6, 9, 10, 11, 12, 13, 14, 15, 16, 17, 18, 19, 20, 21, 22, 23, 24, 25, 26, 27, 28, 29, 30, 31, 32, 33, 34, 35]) (fun ⟨k9, i10, v7, x8⟩ => [(3, v7), (9, (.int .i64 (i10)))]) (fun ⟨k9, i10, v7, x8⟩ w => SH w0 M BE w (hset [(1, .sr iH va a), (5, .own jI 57 v7 x8)]) ∧ i10 = (k9 : Int) ∧ each (oI N a) oJ (a.drop k9) x8 = some r) (fun ⟨k9, i10, v7, x8⟩ => a.length - k9) ⟨0, 0, (.slice none 0 0), []⟩ ⟨rfl, rfl, trivial⟩ ?_ ?_
 exact ⟨h.cn _, rfl, hs⟩
 rintro ⟨k9, i10, v7, x8⟩ w dz ⟨h, hik, hs⟩
 refine ai (ag ?_)
 refine ae (dN rfl rfl) (ah (aa ?_))
 refine ai (iJ rfl (fun e14 => ?_) (fun e14 => ?_))
 refine aG (aa ?_)
 obtain ⟨fQ, Sd, Sg⟩ := gL (hik ▸ e14)
 rw [Sg, dO] at hs
 generalize Lc : each (oI N a) oJ (a.drop (k9 + 1)) = qJ at hs
 have Si := gP ((h.je 1 rfl)).cO hik e14
 refine ai (aV (ai (ag ?_)))
 obtain ⟨b17, o18, Xw, h, Ve, i16⟩ := h.Bt 1 6 rfl iy rfl (jl hik) (gN hik Sd)
 obtain ⟨u21, rfl, g22⟩ := rG Ve
 replace h := h.cZ 7 g22.up
 refine ae (i16 _ _ _ _ _ _ _ _ _ rfl rfl) (ae (jW (k := 0) (vs := [(.int .i64 (fQ.params)), (.int .i64 (fQ.locals)), u21]) h 6 rfl lF rfl rfl rfl (Nat.le_of_ble_eq_true rfl)) (bT h 8 lF fun w BH h => dm (vs := [(.int .i64 (fQ.params)), (.int .i64 (fQ.locals)), u21]) h 8 [(.int .i64 (fQ.params)), (.int .i64 (fQ.locals)), u21] rfl lF rfl rfl rfl rfl rfl (ax rfl (ax rfl (ax (h.gB 7 rfl).one aZ))) fun w h => ah (aa (ai (ag (ae (ak uA rfl) (ae (aF h 8 rfl bz rfl rfl) (ae (dC (pv := [(0, (.int .i64 (fQ.params))), (1, (.int .i64 (30)))]) (out := [(.int .i64 (fQ.params)), (.int .i64 (30)), (.slice none 0 0)]) RO rfl ⟨0, 1, [(.int .i64 (fQ.params))], rfl, rfl, rfl, Nat.le_of_ble_eq_true rfl, ⟨1, 1, [(.int .i64 (30))], rfl, rfl, rfl, Nat.le_of_ble_eq_true rfl, rfl⟩⟩) (bT h 9 uZ fun w YC h => dm (vs := [(.int .i64 (fQ.params)), (.int .i64 (30)), (.slice none 0 0)]) h 9 [(.int .i64 (fQ.params)), (.int .i64 (30)), (.slice none 0 0)] rfl uZ rfl rfl rfl rfl rfl (ax rfl (ax rfl (ax rfl aZ))) fun w h => ah (aa (bV (σ := Value × List Ins) (inl [16, 17, 18, 19, 20, 21, 22, 23, 24, 25, 26, 27, 28, 29, 30]) (fun ⟨v25, FT⟩ => []) (fun ⟨v25, FT⟩ w => SH w0 M BE w (hset [(1, .sr iH va a), (5, .own jI 57 v7 x8), (9, .blk YC [(.int .i64 (fQ.params)), (.int .i64 (30)), v25]), (70, .own jm 93 v25 FT)]) ∧ tN x8 fQ qJ FT = some r) ?_ ?_)))))))))))
 rintro ⟨v25, FT⟩ w dz ⟨h, hs⟩
 refine ag (ae (au (v := v7) rfl) (ae (dS (vs := [(.int .i64 (fQ.params)), (.int .i64 (30)), v25]) h 9 rfl uZ rfl rfl rfl) ?_))
 replace h := h.freeze 70 rfl
 refine uw (R := jI) (vs := [(.agg #[(.int .i64 (fQ.params)), (.int .i64 (30)), v25])]) (xs := [(⟨fQ.params, 30, FT⟩ : bP)]) h 71 KZ rfl rfl rfl ⟨⟨_, rfl, (h.gB 70 rfl)⟩, trivial⟩ rfl fun w u27 h => ?_
 obtain ⟨a28, hs⟩ := bG hs
 refine mo (R := jI) (m := [(⟨fQ.params, 30, FT⟩ : bP)]) h 5 rfl (h.dM 71 rfl) KZ rfl rfl rfl a28.1 a28.2 fun w u29 h => ae (aj (v := u29) rfl) (ah (aA (aa (ag (ae (dw rfl rfl Si) (ae (au (v := (.int .i64 ((i10 + 1)))) rfl) (ah (az ?_))))))))
 subst Lc
 exact jV ⟨k9 + 1, i10 + 1, u29, (x8 ++ [(⟨fQ.params, 30, FT⟩ : bP)])⟩ ⟨h.cn _, by omega, hs⟩ (by have := of_decide_eq_true e14; dsimp only; omega)
 refine lY (L := (fun x => x = YC)) mixed h fun w h => bg 0 (aP.refl _ _) rfl ay (by kernel_rfl) (by kernel_rfl) (by kernel_rfl) (fun w hk => ak Ab rfl) (bg 1 (aP.refl _ _) rfl ay (by kernel_rfl) (by kernel_rfl) (by kernel_rfl) (fun w hk => have h := h.qN 9 rfl hk; aF h 8 rfl oD rfl rfl) (bg 2 (aP.refl _ _) rfl ay (by kernel_rfl) (by kernel_rfl) (by kernel_rfl) (fun w hk => au (v := va) rfl) (bg 3 (aP.refl _ _) rfl ay (by kernel_rfl) (by kernel_rfl) (by kernel_rfl) (fun w hk => ak xU rfl) (bg 4 (aP.refl _ _) rfl ay (by kernel_rfl) (by kernel_rfl) (by kernel_rfl) (fun w hk => have h := h.qN 9 rfl hk; aF h 8 rfl bz rfl rfl) (bg 6 (aP.refl _ _) rfl ay (by kernel_rfl) (by kernel_rfl) (by kernel_rfl) (fun w hk => ak xU rfl) (bg 7 (aP.refl _ _) rfl ay (by kernel_rfl) (by kernel_rfl) (by kernel_rfl) (fun w hk => have h := h.qN 9 rfl hk; aF h 8 rfl bz rfl rfl) (bg 8 (aP.refl _ _) rfl ay (by kernel_rfl) (by kernel_rfl) (by kernel_rfl) (fun w hk => dC (pv := [(0, (.int .i64 (1))), (1, (.int .i64 (fQ.locals)))]) (out := [(.int .i64 (1)), (.int .i64 (fQ.locals)), (.int .i64 (0)), (.int .i64 (0)), (.slice none 0 0)]) lZ rfl ⟨0, 1, [(.int .i64 (1))], rfl, rfl, rfl, Nat.le_of_ble_eq_true rfl, ⟨1, 1, [(.int .i64 (fQ.locals))], rfl, rfl, rfl, Nat.le_of_ble_eq_true rfl, rfl⟩⟩) (bg 9 (aP.refl _ _) rfl ay (by kernel_rfl) (by kernel_rfl) (by kernel_rfl) (fun w hk => ak xU rfl) (bg 10 (aP.refl _ _) rfl ay (by kernel_rfl) (by kernel_rfl) (by kernel_rfl) (fun w hk => have h := h.qN 9 rfl hk; aF h 8 rfl bz rfl rfl) (bg 11 (aP.refl _ _) rfl ay (by kernel_rfl) (by kernel_rfl) (by kernel_rfl) (fun w hk => dC (pv := [(0, (.int .i64 (8))), (1, (.int .i64 (fQ.locals)))]) (out := [(.int .i64 (8)), (.int .i64 (fQ.locals)), (.int .i64 (0)), (.int .i64 (0)), (.slice none 0 0)]) lZ rfl ⟨0, 1, [(.int .i64 (8))], rfl, rfl, rfl, Nat.le_of_ble_eq_true rfl, ⟨1, 1, [(.int .i64 (fQ.locals))], rfl, rfl, rfl, Nat.le_of_ble_eq_true rfl, rfl⟩⟩) ?_))))))))))
 obtain ⟨Ae, Lj, hs⟩ := aQ hs
 obtain ⟨Bb, hs⟩ := bG hs
 obtain ⟨MR, K9⟩ : ∃ x, x = w := ⟨_, rfl⟩
 have mq : aP (fun x => x = YC) MR w := K9 ▸ aP.refl (fun x => x = YC) w
 refine sj K9.symm (om 5 12 (by kernel_rfl) rfl ay rfl ay ?_ ?_)
 refine bA J3 rfl rfl (uN N _ _ h.lt u21 fQ.body (h.oZ 7 rfl) va a (h.je 1 rfl) fQ.locals 0 _ Lj) ?_
 rintro _ w ⟨Af, Gt, rfl, Gu, Ag⟩
 refine ⟨_, rfl, ?_⟩
 replace h := h.jM 132 Af Gu Ag
 have yt : ∀ b, ob Gt b → MR.heap.size ≤ b := fun b hb => Nat.le_trans mq.size (Ag b hb)
 replace mq := mq.grow Af
 refine ah (aX mq (bN 12 (by kernel_rfl) rfl ay (zB (R := jm) (vs := [(.agg #[(.int .i64 (1)), (.int .i64 (fQ.locals)), (.int .i64 (0)), (.int .i64 (0)), (.slice none 0 0)]), (.agg #[(.int .i64 (8)), (.int .i64 (fQ.locals)), (.int .i64 (0)), (.int .i64 (0)), (.slice none 0 0)])]) (xs := [(⟨1, fQ.locals, 0, 0, []⟩ : Ins), (⟨8, fQ.locals, 0, 0, []⟩ : Ins)]) h 216 eG rfl rfl rfl ⟨⟨_, rfl, gp.nil⟩, ⟨⟨_, rfl, gp.nil⟩, trivial⟩⟩ rfl fun w Ed h BU BV => ?_)))
 have Ni : ∀ b, ob Ed b → MR.heap.size ≤ b := fun b hb => Nat.le_trans mq.size (BV b hb)
 replace mq := mq.grow BU
 refine ah (aX mq (bN 13 (by kernel_rfl) rfl ay ?_))
 have BX := mq.size
 refine oN (R := jm) (m := [(⟨1, fQ.locals, 0, 0, []⟩ : Ins), (⟨8, fQ.locals, 0, 0, []⟩ : Ins)]) h 132 rfl (h.dM 216 rfl) eG rfl rfl rfl Bb.1 Bb.2 fun w yu h BZ Ca => ?_
 replace mq := mq.Q8 BZ yt
 have Nj := II BX yt Ca
 refine ah (aX mq (bg 14 mq rfl ay (by kernel_rfl) (by kernel_rfl) (by kernel_rfl) (fun w hk => ak rf rfl) (bN 15 (by kernel_rfl) rfl ay (ry h 9 [(.int .i64 (fQ.params)), (.int .i64 (30)), yu] rfl zC rfl rfl rfl rfl (h.dD 132 rfl).one fun w h Ee => ?_))))
 replace mq := mq.same Ee
 refine ah (aX mq (fU (by kernel_rfl) (az ?_)))
 replace h := h.zU 132 70 rfl rfl (by decide)
 exact bQ (yu, (Ae ++ [(⟨1, fQ.locals, 0, 0, []⟩ : Ins), (⟨8, fQ.locals, 0, 0, []⟩ : Ins)])) ⟨h.cn _, hs⟩
 refine zB (R := jm) (vs := [(.agg #[(.int .i64 (1)), (.int .i64 (fQ.locals)), (.int .i64 (0)), (.int .i64 (0)), (.slice none 0 0)]), (.agg #[(.int .i64 (8)), (.int .i64 (fQ.locals)), (.int .i64 (0)), (.int .i64 (0)), (.slice none 0 0)])]) (xs := [(⟨1, fQ.locals, 0, 0, []⟩ : Ins), (⟨8, fQ.locals, 0, 0, []⟩ : Ins)]) h 216 eG rfl rfl rfl ⟨⟨_, rfl, gp.nil⟩, ⟨⟨_, rfl, gp.nil⟩, trivial⟩⟩ rfl fun w Ed h BU BV => ?_
 have Ni : ∀ b, ob Ed b → MR.heap.size ≤ b := fun b hb => Nat.le_trans mq.size (BV b hb)
 replace mq := mq.grow BU
 refine ah (aX mq (bN 5 (by kernel_rfl) rfl ay (bA J3 rfl rfl (uN N _ _ h.lt u21 fQ.body (h.oZ 7 rfl) va a (h.je 1 rfl) fQ.locals 0 _ Lj) ?_)))
 rintro _ w ⟨Af, Gt, rfl, Gu, Ag⟩
 refine ⟨_, rfl, ?_⟩
 replace h := h.jM 132 Af Gu Ag
 have yt : ∀ b, ob Gt b → MR.heap.size ≤ b := fun b hb => Nat.le_trans mq.size (Ag b hb)
 replace mq := mq.grow Af
 refine ah (aX mq (bN 13 (by kernel_rfl) rfl ay ?_))
 have BX := mq.size
 refine oN (R := jm) (m := [(⟨1, fQ.locals, 0, 0, []⟩ : Ins), (⟨8, fQ.locals, 0, 0, []⟩ : Ins)]) h 132 rfl (h.dM 216 rfl) eG rfl rfl rfl Bb.1 Bb.2 fun w yu h BZ Ca => ?_
 replace mq := mq.Q8 BZ yt
 have Nj := II BX yt Ca
 refine ah (aX mq (bg 14 mq rfl ay (by kernel_rfl) (by kernel_rfl) (by kernel_rfl) (fun w hk => ak rf rfl) (bN 15 (by kernel_rfl) rfl ay (ry h 9 [(.int .i64 (fQ.params)), (.int .i64 (30)), yu] rfl zC rfl rfl rfl rfl (h.dD 132 rfl).one fun w h Ee => ?_))))
 replace mq := mq.same Ee
 refine ah (aX mq (fU (by kernel_rfl) (az ?_)))
 replace h := h.zU 132 70 rfl rfl (by decide)
 exact bQ (yu, (Ae ++ [(⟨1, fQ.locals, 0, 0, []⟩ : Ins), (⟨8, fQ.locals, 0, 0, []⟩ : Ins)])) ⟨h.cn _, hs⟩
 rw [gM (hik ▸ e14), gU] at hs
 refine df (aN (aN (bE (aa (ai (ag (ae (au (v := v7) rfl) (ae (aj (v := v7) rfl) (ah (aa (aK (cK (v := v7) Tryz.results39 rfl ?_))))))))))))
 obtain rfl := Option.some.inj hs
 exact ⟨h.grown, _, rfl, (h.lI 5 rfl).1, (h.lI 5 rfl).2⟩
def fE (x6 : Bool) : Bool × Bool × Bool × Bool :=
  bif x6 then (false, false, false, true) else (false, false, false, false)
def eX (a : Int) (x3 : Bool) : Bool × Bool × Bool × Bool :=
  bif x3 then (true, true, false, true) else bif decide ((a : Int) = 3) then (true, true, true, true) else bif decide ((a : Int) = 10) then fE (decide ((a : Int) = 10)) else fE (decide ((a : Int) = 12))
def dJ (a : Int) (x1 : Bool) : Bool × Bool × Bool × Bool :=
  bif x1 then (true, false, false, true) else bif decide ((a : Int) = 2) then eX a (decide ((a : Int) = 2)) else bif decide ((a : Int) = 4) then eX a (decide ((a : Int) = 4)) else eX a (decide ((a : Int) = 6))
def bM (a : Int) : Bool × Bool × Bool × Bool :=
  bif decide ((a : Int) = 1) then dJ a (decide ((a : Int) = 1)) else bif decide ((a : Int) = 5) then dJ a (decide ((a : Int) = 5)) else bif decide ((a : Int) = 8) then dJ a (decide ((a : Int) = 8)) else bif decide ((a : Int) = 9) then dJ a (decide ((a : Int) = 9)) else bif decide ((a : Int) = 11) then dJ a (decide ((a : Int) = 11)) else bif decide ((a : Int) = 13) then dJ a (decide ((a : Int) = 13)) else dJ a (decide ((a : Int) = 7))
theorem Ll (w0 : World) (M : BS) (hM : ∀ b, M b → b < w0.heap.size) (a : Int) (r : Bool × Bool × Bool × Bool) (hs : bM a = r) :
    Calls Tryz.prog 115 #[(.int .i64 (a))] w0 (fun e w' => Grow w0 w' ∧ e = .returned (.tuple #[.bool r.1, .bool r.2.1, .bool r.2.2.1, .bool r.2.2.2])) := by
 refine aS (args := [(.int .i64 (a))]) Tryz.func115 rfl Tryz.ntmps115 (Nat.le_of_ble_eq_true rfl) ?_
 have h := SH.init hM
 refine ai (ag (ae (aj (v := (.bool (false))) rfl) (ae (aj (v := (.bool (false))) rfl) (ae (aj (v := (.bool (false))) rfl) (ae (aj (v := (.bool (false))) rfl) (ah (aa (ai (ai (ag (ae (au (v := (.int .i64 (a))) rfl) (ah (aa (aV (bV (σ := Bool) (inl [7, 8, 9, 10, 11, 12, 13, 14]) (fun x1 => [(7, (.bool (x1)))]) (fun x1 w => SH w0 M BE w (hset []) ∧ dJ a x1 = r) ?_ ?_)))))))))))))))
 rintro x1 w dz ⟨h, hs⟩
 refine aI hs rfl (fun c2 hs => ?_) (fun c2 hs => ?_)
 refine ai (ag (ae (aj (v := (.bool (true))) rfl) (ae (aj (v := (.bool (false))) rfl) (ae (aj (v := (.bool (false))) rfl) (ae (aj (v := (.bool (true))) rfl) (ah (aa (aK (aH (aC (Rm (v1 := (.bool (true))) (v2 := (.bool (false))) (v3 := (.bool (false))) (v4 := (.bool (true))) Tryz.results115 rfl rfl rfl rfl ?_)))))))))))
 obtain rfl := hs
 exact ⟨h.grown, rfl⟩
 refine bV (σ := Bool) (inl [15, 16, 17, 18]) (fun x3 => [(15, (.bool (x3)))]) (fun x3 w => SH w0 M BE w (hset []) ∧ eX a x3 = r) ?_ ?_
 rintro x3 w dz ⟨h, hs⟩
 refine aI hs rfl (fun c4 hs => ?_) (fun c4 hs => ?_)
 refine ai (ag (ae (aj (v := (.bool (true))) rfl) (ae (aj (v := (.bool (true))) rfl) (ae (aj (v := (.bool (false))) rfl) (ae (aj (v := (.bool (true))) rfl) (ah (aa (aK (aH (aC (Rm (v1 := (.bool (true))) (v2 := (.bool (true))) (v3 := (.bool (false))) (v4 := (.bool (true))) Tryz.results115 rfl rfl rfl rfl ?_)))))))))))
 obtain rfl := hs
 exact ⟨h.grown, rfl⟩
 refine ai (ag (ae (bI rfl rfl) (ae (aj (v := (.bool (decide ((a : Int) = 3)))) rfl) (ah (aa (aI hs rfl (fun c5 hs => ?_) (fun c5 hs => ?_)))))))
 refine ai (ag (ae (aj (v := (.bool (true))) rfl) (ae (aj (v := (.bool (true))) rfl) (ae (aj (v := (.bool (true))) rfl) (ae (aj (v := (.bool (true))) rfl) (ah (aa (aK (aH (aC (Rm (v1 := (.bool (true))) (v2 := (.bool (true))) (v3 := (.bool (true))) (v4 := (.bool (true))) Tryz.results115 rfl rfl rfl rfl ?_)))))))))))
 obtain rfl := hs
 exact ⟨h.grown, rfl⟩
 refine bV (σ := Bool) (inl [21, 22, 23]) (fun x6 => [(21, (.bool (x6)))]) (fun x6 w => SH w0 M BE w (hset []) ∧ fE x6 = r) ?_ ?_
 rintro x6 w dz ⟨h, hs⟩
 refine aI hs rfl (fun c7 hs => ?_) (fun c7 hs => ?_)
 refine ai (ag (ae (aj (v := (.bool (false))) rfl) (ae (aj (v := (.bool (false))) rfl) (ae (aj (v := (.bool (false))) rfl) (ae (aj (v := (.bool (true))) rfl) (ah (aa (aK (aH (aC (Rm (v1 := (.bool (false))) (v2 := (.bool (false))) (v3 := (.bool (false))) (v4 := (.bool (true))) Tryz.results115 rfl rfl rfl rfl ?_)))))))))))
 obtain rfl := hs
 exact ⟨h.grown, rfl⟩
 refine aG (aA (aa (ai (ag (ae (aj (v := (.bool (false))) rfl) (ae (aj (v := (.bool (false))) rfl) (ae (aj (v := (.bool (false))) rfl) (ae (aj (v := (.bool (false))) rfl) (ah (aa (aK (Rm (v1 := (.bool (false))) (v2 := (.bool (false))) (v3 := (.bool (false))) (v4 := (.bool (false))) Tryz.results115 rfl rfl rfl rfl ?_))))))))))))
 obtain rfl := hs
 exact ⟨h.grown, rfl⟩
 refine ai (ag (ae (bI rfl rfl) (ae (aj (v := (.bool (decide ((a : Int) = 10)))) rfl) (ah (aa (aI hs rfl (fun c8 hs => ?_) (fun c8 hs => ?_)))))))
 refine aG (az ?_)
 exact bQ (decide ((a : Int) = 10)) ⟨h.cn _, hs⟩
 refine ag (ae (bI rfl rfl) (ae (aj (v := (.bool (decide ((a : Int) = 12)))) rfl) (ah (az ?_))))
 exact bQ (decide ((a : Int) = 12)) ⟨h.cn _, hs⟩
 refine ai (ag (ae (bI rfl rfl) (ae (aj (v := (.bool (decide ((a : Int) = 2)))) rfl) (ah (aa (aI hs rfl (fun c9 hs => ?_) (fun c9 hs => ?_)))))))
 refine aG (az ?_)
 exact bQ (decide ((a : Int) = 2)) ⟨h.cn _, hs⟩
 refine ai (ag (ae (bI rfl rfl) (ae (aj (v := (.bool (decide ((a : Int) = 4)))) rfl) (ah (aa (aI hs rfl (fun c10 hs => ?_) (fun c10 hs => ?_)))))))
 refine aG (az ?_)
 exact bQ (decide ((a : Int) = 4)) ⟨h.cn _, hs⟩
 refine ag (ae (bI rfl rfl) (ae (aj (v := (.bool (decide ((a : Int) = 6)))) rfl) (ah (az ?_))))
 exact bQ (decide ((a : Int) = 6)) ⟨h.cn _, hs⟩
 refine ai (ag (ae (bI rfl rfl) (ae (aj (v := (.bool (decide ((a : Int) = 1)))) rfl) (ah (aa (aI hs rfl (fun c11 hs => ?_) (fun c11 hs => ?_)))))))
 refine aG (az ?_)
 exact bQ (decide ((a : Int) = 1)) ⟨h.cn _, hs⟩
 refine ai (ag (ae (bI rfl rfl) (ae (aj (v := (.bool (decide ((a : Int) = 5)))) rfl) (ah (aa (aI hs rfl (fun c12 hs => ?_) (fun c12 hs => ?_)))))))
 refine aG (az ?_)
 exact bQ (decide ((a : Int) = 5)) ⟨h.cn _, hs⟩
 refine ai (ag (ae (bI rfl rfl) (ae (aj (v := (.bool (decide ((a : Int) = 8)))) rfl) (ah (aa (aI hs rfl (fun c13 hs => ?_) (fun c13 hs => ?_)))))))
 refine aG (az ?_)
 exact bQ (decide ((a : Int) = 8)) ⟨h.cn _, hs⟩
 refine ai (ag (ae (bI rfl rfl) (ae (aj (v := (.bool (decide ((a : Int) = 9)))) rfl) (ah (aa (aI hs rfl (fun c14 hs => ?_) (fun c14 hs => ?_)))))))
 refine aG (az ?_)
 exact bQ (decide ((a : Int) = 9)) ⟨h.cn _, hs⟩
 refine ai (ag (ae (bI rfl rfl) (ae (aj (v := (.bool (decide ((a : Int) = 11)))) rfl) (ah (aa (aI hs rfl (fun c15 hs => ?_) (fun c15 hs => ?_)))))))
 refine aG (az ?_)
 exact bQ (decide ((a : Int) = 11)) ⟨h.cn _, hs⟩
 refine ai (ag (ae (bI rfl rfl) (ae (aj (v := (.bool (decide ((a : Int) = 13)))) rfl) (ah (aa (aI hs rfl (fun c16 hs => ?_) (fun c16 hs => ?_)))))))
 refine aG (az ?_)
 exact bQ (decide ((a : Int) = 13)) ⟨h.cn _, hs⟩
 refine ag (ae (bI rfl rfl) (ae (aj (v := (.bool (decide ((a : Int) = 7)))) rfl) (ah (az ?_))))
 exact bQ (decide ((a : Int) = 7)) ⟨h.cn _, hs⟩
def dX (a : Bool) (b : Int) (jG : Int) : Bool :=
  ((!a) || (decide ((0 : Int) ≤ b) && decide ((b : Int) < jG)))
theorem zD (w0 : World) (M : BS) (hM : ∀ b, M b → b < w0.heap.size) (a : Bool) (b : Int) (jG : Int) (q0 : Nat) (hq0 : ∃ E, w0.heap[q0]? = some (.cells #[(.int .i64 (jG))] E (0, 0))) (r : Bool) (hs : dX a b jG = r) :
    Calls Tryz.prog 116 #[(.bool (a)), (.int .i64 (b)), (.pointer (some ⟨q0, 0, none⟩))] w0 (fun e w' => Grow w0 w' ∧ e = .returned (.bool r)) := by
 refine aS (args := [(.bool (a)), (.int .i64 (b)), (.pointer (some ⟨q0, 0, none⟩))]) Tryz.func116 rfl Tryz.ntmps116 (Nat.le_of_ble_eq_true rfl) ?_
 have h := SH.init hM
 replace h := h.IC 1 (cs := [(.int .i64 (jG))]) hq0 bR
 refine ai (ag (ae (aj (v := (.bool (false))) rfl) (ah (aa (ai (ag (ae (au (v := (.bool (a))) rfl) (ae (iq rfl) (ae (au (v := (.bool ((!a)))) rfl) (aD rfl rfl (fun q => au (v := (.int .i64 (b))) rfl) (aD rfl rfl (fun q => oK (dn q) rfl) (aD rfl rfl (fun q => au (v := (.bool (decide ((0 : Int) ≤ b)))) (dn q)) (kr ((!a) == false) rfl rfl (fun q => au (v := (.int .i64 (b))) rfl) (kr ((!a) == false) rfl rfl (fun q => eF (k := 0) h 1 rfl bz rfl rfl) (kr ((!a) == false) rfl rfl (fun q => dN (dn q) (dn q)) (aD rfl rfl (fun q => fZ (dn q) (OZ q) lV) (ae (gu rfl rfl lV) (ae (aj (v := (.bool (((!a) || (decide ((0 : Int) ≤ b) && decide ((b : Int) < jG)))))) rfl) (ah (aa (aK (cK (v := (.bool (((!a) || (decide ((0 : Int) ≤ b) && decide ((b : Int) < jG)))))) Tryz.results116 rfl ?_))))))))))))))))))))))
 obtain rfl := hs
 exact ⟨h.grown, rfl⟩
def mg (d : Int) (x20 : Int) (s : Unit) (Vm : Unit → Option Int) : Option Int :=
  bif (!(decide ((0 : Int) ≤ x20) && decide ((x20 : Int) < d))) then some 3 else Vm ()
def qR (s : Unit) : Option Int :=
  some 0
def dR (x9 : Bool) (a : Ins) (b : Int) (Cb : Int) (c : List bP) (y13 : Int) (zL : Int) (d : Int) (QQ : Int) : Option Int :=
  bif (!x9) then some 3 else bif (((decide ((a.a : Int) ≠ QQ) || decide ((a.b : Int) ≠ Cb)) || decide ((a.c : Int) ≠ y13)) || decide (((a.args.length : Int) : Int) ≠ zL)) then some 4 else bif decide ((a.op : Int) = 7) then each (mg d) qR a.args () else some 0
def bZ (a : Ins) (b : Int) (c : List bP) (d : Int) (x9 : Bool) (zL : Int) (PT : Int) (Cb : Int) (y13 : Int) : Option Int :=
  bif decide ((a.op : Int) = 12) then dR x9 a b Cb c y13 zL d 0 else dR x9 a b Cb c y13 zL d PT
def dx (a : Ins) (b : Int) (c : List bP) (d : Int) (pO : Bool) : Option Int :=
  bif pO then bZ a b c d ((bM a.op).2.2.2) 0 a.a 0 0 else bif decide ((a.op : Int) = 10) then bZ a b c d ((bM a.op).2.2.2) 0 0 0 0 else bZ a b c d ((bM a.op).2.2.2) 0 a.a a.b 0
def dE (a : Ins) (b : Int) (c : List bP) (d : Int) (e : Int) (YD : Bool) : Option Int :=
  bif YD then bZ a b c d (decide ((0 : Int) ≤ a.b) && decide ((a.b : Int) < e)) 0 a.a a.b 0 else bif decide ((a.op : Int) = 7) then bif (decide ((a.b : Int) < 0) || decide (((c.length : Int) : Int) ≤ a.b)) then some 5 else (idx c a.b).bind fun x54 => bZ a b c d ((bM a.op).2.2.2) x54.params a.a a.b 0 else bif decide ((a.op : Int) = 8) then dx a b c d (decide ((a.op : Int) = 8)) else bif decide ((a.op : Int) = 9) then dx a b c d (decide ((a.op : Int) = 9)) else dx a b c d (decide ((a.op : Int) = 11))
def dG (a : Ins) (b : Int) (c : List bP) (d : Int) (e : Int) (x34 : Bool) : Option Int :=
  bif x34 then bZ a b c d (decide ((0 : Int) ≤ a.c) && decide ((a.c : Int) < 4)) 0 a.a a.b a.c else bif decide ((a.op : Int) = 3) then bif decide (((a.args.length : Int) : Int) = 1) then (idx a.args 0).bind fun x38 => bZ a b c d (decide ((1 : Int) ≤ x38) && decide ((x38 : Int) ≤ 5)) 1 a.a a.b a.c else bZ a b c d false 1 a.a a.b a.c else bif decide ((a.op : Int) = 12) then dE a b c d e (decide ((a.op : Int) = 12)) else dE a b c d e (decide ((a.op : Int) = 13))
def gF (a : Ins) (b : Int) (c : List bP) (d : Int) (e : Int) : Option Int :=
  bif (!(bM a.op).2.2.2) then some 4 else bif (((!((!(bM a.op).1) || (decide ((0 : Int) ≤ a.a) && decide ((a.a : Int) < d)))) || (!(dX ((bM a.op).2.1) a.b d))) || (!(dX ((bM a.op).2.2.1) a.c d))) then some 3 else bif decide ((a.op : Int) = 1) then bZ a b c d (decide ((-1000000000 : Int) ≤ a.b) && decide ((a.b : Int) ≤ 1000000000)) 0 a.a a.b 0 else bif decide ((a.op : Int) = 5) then bZ a b c d (decide ((1 : Int) ≤ a.b) && decide ((a.b : Int) ≤ 4)) 0 a.a a.b 0 else bif decide ((a.op : Int) = 4) then dG a b c d e (decide ((a.op : Int) = 4)) else dG a b c d e (decide ((a.op : Int) = 6))
theorem Kh (w0 : World) (M : BS) (hM : ∀ b, M b → b < w0.heap.size) (a : Ins) (Cc : Value) (ZZ : gp fF w0 BE M Cc a.args) (b : Int) (vc : Value) (c : List bP) (hc : gp jI w0 BE M vc c) (d : Int) (e : Int) (r : Int) (hs : gF a b c d e = some r) :
    Calls Tryz.prog 86 #[(.agg #[(.int .i64 (a.op)), (.int .i64 (a.a)), (.int .i64 (a.b)), (.int .i64 (a.c)), Cc]), (.int .i64 (b)), vc, (.int .i64 (d)), (.int .i64 (e))] w0 (fun e w' => Grow w0 w' ∧ e = .returned (.int .i64 r)) := by
 refine aS (args := [(.agg #[(.int .i64 (a.op)), (.int .i64 (a.a)), (.int .i64 (a.b)), (.int .i64 (a.c)), Cc]), (.int .i64 (b)), vc, (.int .i64 (d)), (.int .i64 (e))]) Tryz.func86 rfl Tryz.ntmps86 (Nat.le_of_ble_eq_true rfl) ?_
 have h := SH.init hM
 replace h := h.il 1 ZZ bR
 replace h := h.il 2 hc (eT bR)
 have hl_c := hc.cO
 refine ai (ag (rF (cs := [(.int .i64 (a.op)), (.int .i64 (a.a)), (.int .i64 (a.b)), (.int .i64 (a.c)), Cc]) h 3 rfl rfl fun w b1 h => rF (cs := [(.int .i64 (d))]) h 4 rfl rfl fun w b2 h => ae (aj (v := (.int .i64 (0))) rfl) (ah (aa (ai (ag (ae (ak oP rfl) (ae (aF h 3 rfl bz rfl rfl) (bA U3 rfl rfl (Ll _ _ h.lt a.op _ rfl) ?_)))))))))
 rintro _ w ⟨k3, rfl⟩
 refine ⟨_, rfl, ?_⟩
 replace h := h.grow k3
 refine ae (au (v := (.tuple #[(.bool ((bM a.op).1)), (.bool ((bM a.op).2.1)), (.bool ((bM a.op).2.2.1)), (.bool ((bM a.op).2.2.2))])) rfl) (ae (bC rfl rfl) (ae (bC rfl rfl) (ae (bC rfl rfl) (ae (bC rfl rfl) (ae (aj (v := (.bool ((bM a.op).1))) rfl) (ae (aj (v := (.bool ((bM a.op).2.1))) rfl) (ae (aj (v := (.bool ((bM a.op).2.2.1))) rfl) (ae (aj (v := (.bool ((bM a.op).2.2.2))) rfl) (ah (aa (ai (ai (ag (ae (au (v := (.bool ((bM a.op).2.2.2))) rfl) (ae (iq rfl) (ah (aa (aI hs rfl (fun c4 hs => ?_) (fun c4 hs => ?_)))))))))))))))))))
 refine ai (ag (ae (aj (v := (.int .i64 (4))) rfl) (ah (aa (aK (aC (cK (v := (.int .i64 (4))) Tryz.results86 rfl ?_)))))))
 obtain rfl := Option.some.inj hs
 exact ⟨h.grown, rfl⟩
 refine aG (aa (ai (ag (ae (ru (c1 := []) (c2 := [(.pointer (some ⟨b2, 0, none⟩))]) rfl rfl) (ae (aj (v := (.func (.func 116) #[] #[(.pointer (some ⟨b2, 0, none⟩))])) rfl) (ah (aa (ai (ai (ag (ae (au (v := (.func (.func 116) #[] #[(.pointer (some ⟨b2, 0, none⟩))])) rfl) (ae (au (v := (.bool ((bM a.op).1))) rfl) (ae (ak j3 rfl) (ae (aF h 3 rfl bz rfl rfl) (lX (args := [(.bool ((bM a.op).1)), (.int .i64 (a.a)), (.pointer (some ⟨b2, 0, none⟩))]) FL rfl rfl (aS (args := [(.bool ((bM a.op).1)), (.int .i64 (a.a)), (.pointer (some ⟨b2, 0, none⟩))]) Tryz.func116 rfl Tryz.ntmps116 (Nat.le_of_ble_eq_true rfl) (ai (ag (ae (aj (v := (.bool (false))) rfl) (ah (aa (ai (ag ?_)))))))))))))))))))))))
 refine ae (au (v := (.bool ((bM a.op).1))) rfl) (ae (iq rfl) (ae (au (v := (.bool ((!(bM a.op).1)))) rfl) (aD rfl rfl (fun q => au (v := (.int .i64 (a.a))) rfl) (aD rfl rfl (fun q => oK (dn q) rfl) (aD rfl rfl (fun q => au (v := (.bool (decide ((0 : Int) ≤ a.a)))) (dn q)) (kr ((!(bM a.op).1) == false) rfl rfl (fun q => au (v := (.int .i64 (a.a))) rfl) (kr ((!(bM a.op).1) == false) rfl rfl (fun q => aF h 4 rfl bz rfl rfl) (kr ((!(bM a.op).1) == false) rfl rfl (fun q => dN (dn q) (dn q)) (aD rfl rfl (fun q => fZ (dn q) (OZ q) lV) (ae (gu rfl rfl lV) (ae (aj (v := (.bool (((!(bM a.op).1) || (decide ((0 : Int) ≤ a.a) && decide ((a.a : Int) < d)))))) rfl) (ah (aa (aK (cK (v := (.bool (((!(bM a.op).1) || (decide ((0 : Int) ≤ a.a) && decide ((a.a : Int) < d)))))) Tryz.results116 rfl (⟨_, rfl, ?_⟩))))))))))))))))
 refine ae (iq rfl) (ae (au (v := (.bool ((!((!(bM a.op).1) || (decide ((0 : Int) ≤ a.a) && decide ((a.a : Int) < d))))))) rfl) (aD rfl rfl (fun q => au (v := (.func (.func 116) #[] #[(.pointer (some ⟨b2, 0, none⟩))])) rfl) (aD rfl rfl (fun q => au (v := (.bool ((bM a.op).2.1))) rfl) (aD rfl rfl (fun q => ak iG rfl) (aD rfl rfl (fun q => aF h 3 rfl bz (dn q) rfl) (F3 [(.pointer (some ⟨b2, 0, none⟩))] rfl rfl FL (fun q => (dn q)) (fun q => lD (dn q) (lD (dn q) rfl)) (zD _ _ h.lt ((bM a.op).2.1) a.b d b2 (h.qE 4 rfl) _ rfl) fun w k5 => ?_))))))
 replace h := h.grow k5
 refine aD rfl rfl (fun q => iq (dn q)) (ae (gu rfl rfl lV) (ae (au (v := (.bool (((!((!(bM a.op).1) || (decide ((0 : Int) ≤ a.a) && decide ((a.a : Int) < d)))) || (!(dX ((bM a.op).2.1) a.b d)))))) rfl) (aD rfl rfl (fun q => au (v := (.func (.func 116) #[] #[(.pointer (some ⟨b2, 0, none⟩))])) rfl) (aD rfl rfl (fun q => au (v := (.bool ((bM a.op).2.2.1))) rfl) (aD rfl rfl (fun q => ak qp rfl) (aD rfl rfl (fun q => aF h 3 rfl bz (dn q) rfl) (F3 [(.pointer (some ⟨b2, 0, none⟩))] rfl rfl FL (fun q => (dn q)) (fun q => lD (dn q) (lD (dn q) rfl)) (zD _ _ h.lt ((bM a.op).2.2.1) a.c d b2 (h.qE 4 rfl) _ rfl) fun w k6 => ?_)))))))
 replace h := h.grow k6
 refine aD rfl rfl (fun q => iq (dn q)) (ae (gu rfl rfl lV) (ah (aa (aI hs rfl (fun c7 hs => ?_) (fun c7 hs => ?_)))))
 refine ai (ag (ae (aj (v := (.int .i64 (3))) rfl) (ah (aa (aK (aC (cK (v := (.int .i64 (3))) Tryz.results86 rfl ?_)))))))
 obtain rfl := Option.some.inj hs
 exact ⟨h.grown, rfl⟩
 refine aG (aa (ai (ag (ae (ak qp rfl) (ae (aF h 3 rfl bz rfl rfl) (ae (oK rfl rfl) (ae (au (v := (.bool (decide ((0 : Int) ≤ a.c)))) rfl) (aD rfl rfl (fun q => ak qp rfl) (aD rfl rfl (fun q => aF h 3 rfl bz (dn q) rfl) (aD rfl rfl (fun q => dN (dn q) rfl) (ae (fZ rfl rfl lV) (ae (aj (v := (.bool ((decide ((0 : Int) ≤ a.c) && decide ((a.c : Int) < 4))))) rfl) (ah (aa (ai (ag (ae (aj (v := (.int .i64 (0))) rfl) (ah (aa (ai (ag (ae (ak oP rfl) (ae (aF h 3 rfl bz rfl rfl) ?_)))))))))))))))))))))))
 refine ae (ak j3 rfl) (ae (aF h 3 rfl bz rfl rfl) (ae (ak iG rfl) (ae (aF h 3 rfl bz rfl rfl) (ae (dC (pv := [(0, (.int .i64 (a.op))), (1, (.int .i64 (a.a))), (2, (.int .i64 (a.b)))]) (out := [(.int .i64 (a.op)), (.int .i64 (a.a)), (.int .i64 (a.b)), (.int .i64 (0)), (.slice none 0 0)]) lZ rfl ⟨0, 1, [(.int .i64 (a.op))], rfl, rfl, rfl, Nat.le_of_ble_eq_true rfl, ⟨1, 1, [(.int .i64 (a.a))], rfl, rfl, rfl, Nat.le_of_ble_eq_true rfl, ⟨2, 1, [(.int .i64 (a.b))], rfl, rfl, rfl, Nat.le_of_ble_eq_true rfl, rfl⟩⟩⟩) (bT h 5 pq fun w b8 h => dm (vs := [(.int .i64 (a.op)), (.int .i64 (a.a)), (.int .i64 (a.b)), (.int .i64 (0)), (.slice none 0 0)]) h 5 [(.int .i64 (a.op)), (.int .i64 (a.a)), (.int .i64 (a.b)), (.int .i64 (0)), (.slice none 0 0)] rfl pq rfl rfl rfl rfl rfl (ax rfl (ax rfl (ax rfl (ax rfl (ax rfl aZ))))) fun w h => ah (aa (bV (σ := Bool × Int × Int × Int × Int) (inl [10, 14, 17, 69, 70, 71, 72, 73, 74, 75, 76, 77, 78, 79, 80, 81, 82, 83, 84, 85, 86, 87, 88, 89, 90, 91, 92, 93, 94, 95, 96, 97, 98, 99, 100, 101, 102, 103, 104, 105, 106, 107, 108, 109, 110, 111, 112, 113, 114, 115, 116, 117, 118, 119, 120, 121, 122, 123, 124, 125, 126, 127, 128, 129, 130, 131, 132, 133, 134, 135, 136, 137, 138, 139, 140, 141, 142, 143, 144, 145, 146, 147, 148, 149, 150, 151, 152, 153, 154, 155, 156, 157, 158, 159]) (fun ⟨x9, zL, PT, Cb, y13⟩ => [(14, (.bool (x9))), (17, (.int .i64 (zL)))]) (fun ⟨x9, zL, PT, Cb, y13⟩ w => SH w0 M BE w (hset [(1, .sr fF Cc a.args), (3, .blk b1 [(.int .i64 (a.op)), (.int .i64 (a.a)), (.int .i64 (a.b)), (.int .i64 (a.c)), Cc]), (4, .blk b2 [(.int .i64 (d))]), (5, .blk b8 [(.int .i64 (a.op)), (.int .i64 (PT)), (.int .i64 (Cb)), (.int .i64 (y13)), (.slice none 0 0)])]) ∧ bZ a b c d x9 zL PT Cb y13 = some r) ?_ ?_)))))))
 rintro ⟨x9, zL, PT, Cb, y13⟩ w dz ⟨h, hs⟩
 refine bV (σ := Int) (inl [160, 161, 162, 163]) (fun QQ => []) (fun QQ w => SH w0 M BE w (hset [(1, .sr fF Cc a.args), (3, .blk b1 [(.int .i64 (a.op)), (.int .i64 (a.a)), (.int .i64 (a.b)), (.int .i64 (a.c)), Cc]), (4, .blk b2 [(.int .i64 (d))]), (5, .blk b8 [(.int .i64 (a.op)), (.int .i64 (QQ)), (.int .i64 (Cb)), (.int .i64 (y13)), (.slice none 0 0)])]) ∧ dR x9 a b Cb c y13 zL d QQ = some r) ?_ ?_
 rintro QQ w dz ⟨h, hs⟩
 refine ai (ai (ag (ae (au (v := (.bool (x9))) rfl) (ae (iq rfl) (ah (aa (aI hs rfl (fun c15 hs => ?_) (fun c15 hs => ?_))))))))
 refine ai (ag (ae (aj (v := (.int .i64 (3))) rfl) (ah (aa (aK (aC (cK (v := (.int .i64 (3))) Tryz.results86 rfl ?_)))))))
 obtain rfl := Option.some.inj hs
 exact ⟨h.grown, rfl⟩
 refine aG (aa (ai (ai (ag (ae (ak j3 rfl) (ae (aF h 3 rfl bz rfl rfl) (ae (ak j3 rfl) (ae (aF h 5 rfl bz rfl rfl) (ae (gq rfl rfl) (ae (au (v := (.bool (decide ((a.a : Int) ≠ QQ)))) rfl) (aD rfl rfl (fun q => ak iG rfl) (aD rfl rfl (fun q => aF h 3 rfl bz (dn q) rfl) (aD rfl rfl (fun q => ak iG rfl) (aD rfl rfl (fun q => aF h 5 rfl bz (dn q) rfl) (aD rfl rfl (fun q => gq (dn q) (dn q)) (ae (gu rfl rfl lV) (ae (au (v := (.bool ((decide ((a.a : Int) ≠ QQ) || decide ((a.b : Int) ≠ Cb))))) rfl) (aD rfl rfl (fun q => ak qp rfl) (aD rfl rfl (fun q => aF h 3 rfl bz (dn q) rfl) (aD rfl rfl (fun q => ak qp rfl) (aD rfl rfl (fun q => aF h 5 rfl bz (dn q) rfl) (aD rfl rfl (fun q => gq (dn q) (dn q)) (ae (gu rfl rfl lV) ?_)))))))))))))))))))))))
 refine ae (au (v := (.bool (((decide ((a.a : Int) ≠ QQ) || decide ((a.b : Int) ≠ Cb)) || decide ((a.c : Int) ≠ y13))))) rfl) (aD rfl rfl (fun q => ak vT rfl) (aD rfl rfl (fun q => aF h 3 rfl uC (dn q) rfl) (aD rfl rfl (fun q => bY bW (dn q) (h.je 1 rfl)) (aD rfl rfl (fun q => au (v := (.int .i64 (zL))) rfl) (aD rfl rfl (fun q => gq (dn q) (dn q)) (ae (gu rfl rfl lV) (ah (aa (aI hs rfl (fun c16 hs => ?_) (fun c16 hs => ?_))))))))))
 refine ai (ag (ae (aj (v := (.int .i64 (4))) rfl) (ah (aa (aK (aC (cK (v := (.int .i64 (4))) Tryz.results86 rfl ?_)))))))
 obtain rfl := Option.some.inj hs
 exact ⟨h.grown, rfl⟩
 refine aG (aa (ai (ai (ag (ae (ak oP rfl) (ae (aF h 3 rfl bz rfl rfl) (ae (bI rfl rfl) (ah (aa (aI hs rfl (fun c17 hs => ?_) (fun c17 hs => ?_)))))))))))
 refine ai (ag (ae (ak vT rfl) (ae (aF h 3 rfl uC rfl rfl) (ae (bY bW rfl (h.je 1 rfl)) (ae (au (v := (.int .i64 (0))) rfl) (ah (aa (aV (gT (σ := Nat × Int) (inl [10, 20, 198, 199, 200, 201, 202, 203, 204, 205, 206]) (fun ⟨k18, i19⟩ => [(198, (.int .i64 (i19)))]) (fun ⟨k18, i19⟩ w => SH w0 M BE w (hset [(1, .sr fF Cc a.args), (4, .blk b2 [(.int .i64 (d))])]) ∧ i19 = (k18 : Int) ∧ each (mg d) qR (a.args.drop k18) () = some r) (fun ⟨k18, i19⟩ => a.args.length - k18) ⟨0, 0⟩ ⟨rfl, trivial⟩ ?_ ?_)))))))))
 exact ⟨h.cn _, rfl, hs⟩
 rintro ⟨k18, i19⟩ w dz ⟨h, hik, hs⟩
 refine ai (ag ?_)
 refine ae (dN rfl rfl) (ah (aa ?_))
 refine ai (iJ rfl (fun e23 => ?_) (fun e23 => ?_))
 refine aG (aa ?_)
 obtain ⟨x20, e24a, e24b⟩ := gL (hik ▸ e23)
 rw [e24b, dO] at hs
 generalize Z0 : each (mg d) qR (a.args.drop (k18 + 1)) = Vm at hs
 have e24r := gP ((h.je 1 rfl)).cO hik e23
 refine ai (aV (ai (ag ?_)))
 obtain ⟨Xq, o27, Vk, h, XK, i25⟩ := h.Bt 1 6 rfl bW rfl (jl hik) (gN hik e24a)
 obtain rfl := XK
 refine ae (i25 _ _ _ _ _ _ _ _ _ rfl rfl) (ae (eF (k := 0) h 6 rfl bz rfl rfl) (ae (aj (v := (.int .i64 (x20))) rfl) (ah (aa (ai (ag (ae (au (v := (.func (.func 116) #[] #[(.pointer (some ⟨b2, 0, none⟩))])) rfl) (ae (au (v := (.int .i64 (x20))) rfl) (lX (args := [(.bool (true)), (.int .i64 (x20)), (.pointer (some ⟨b2, 0, none⟩))]) FL rfl rfl (aS (args := [(.bool (true)), (.int .i64 (x20)), (.pointer (some ⟨b2, 0, none⟩))]) Tryz.func116 rfl Tryz.ntmps116 (Nat.le_of_ble_eq_true rfl) (ai (ag (ae (aj (v := (.bool (false))) rfl) (ah (aa (ai (ag (ae (au (v := (.bool (true))) rfl) (ae (iq rfl) (ae (au (v := (.bool (false))) rfl) (eY rfl rfl (ae (au (v := (.int .i64 (x20))) rfl) (eY rfl rfl ?_)))))))))))))))))))))))
 refine ae (oK rfl rfl) (eY rfl rfl (ae (au (v := (.bool (decide ((0 : Int) ≤ x20)))) rfl) (aD rfl rfl (fun q => au (v := (.int .i64 (x20))) rfl) (aD rfl rfl (fun q => aF h 4 rfl bz rfl rfl) (aD rfl rfl (fun q => dN (dn q) (dn q)) (eY rfl rfl (ae (fZ rfl rfl lV) (ae (fw (b := false) (v := (.bool ((decide ((0 : Int) ≤ x20) && decide ((x20 : Int) < d))))) rfl rfl) (ae (aj (v := (.bool ((decide ((0 : Int) ≤ x20) && decide ((x20 : Int) < d))))) rfl) (ah (aa (aK (cK (v := (.bool ((decide ((0 : Int) ≤ x20) && decide ((x20 : Int) < d))))) Tryz.results116 rfl (⟨_, rfl, ?_⟩))))))))))))))
 refine ae (iq rfl) (ah (aa (aI hs rfl (fun c30 hs => ?_) (fun c30 hs => ?_))))
 refine ai (ag (ae (aj (v := (.int .i64 (3))) rfl) (ah (aa (aK (aH (aC (aC (aH (aC (cK (v := (.int .i64 (3))) Tryz.results86 rfl ?_)))))))))))
 obtain rfl := Option.some.inj hs
 exact ⟨h.grown, rfl⟩
 refine aG (aA (aa (ag (ae (dw rfl rfl e24r) (ae (au (v := (.int .i64 ((i19 + 1)))) rfl) (ah (az ?_)))))))
 subst Z0
 exact jV ⟨k18 + 1, i19 + 1⟩ ⟨h.cn _, by omega, hs⟩ (by have := of_decide_eq_true e23; dsimp only; omega)
 rw [gM (hik ▸ e23), gU] at hs
 refine df (aN (aN (bE (aa (ai (ag (ae (aj (v := (.int .i64 (0))) rfl) (ah (aa (aK (cK (v := (.int .i64 (0))) Tryz.results86 rfl ?_)))))))))))
 obtain rfl := Option.some.inj hs
 exact ⟨h.grown, rfl⟩
 refine aG (aa (ai (ag (ae (aj (v := (.int .i64 (0))) rfl) (ah (aa (aK (cK (v := (.int .i64 (0))) Tryz.results86 rfl ?_))))))))
 obtain rfl := Option.some.inj hs
 exact ⟨h.grown, rfl⟩
 refine ai (ag (ae (ak oP rfl) (ae (aF h 3 rfl bz rfl rfl) (ae (bI rfl rfl) (ah (aa (aI hs rfl (fun c31 hs => ?_) (fun c31 hs => ?_))))))))
 refine ag (ae (ak j3 rfl) (fq h 5 [(.int .i64 (a.op)), (.int .i64 (0)), (.int .i64 (Cb)), (.int .i64 (y13)), (.slice none 0 0)] rfl bz rfl rfl rfl rfl rfl fun w h => ah (az ?_)))
 exact bQ 0 ⟨h.cn _, hs⟩
 refine aG (az ?_)
 exact bQ PT ⟨h.cn _, hs⟩
 refine ai (ag (ae (ak oP rfl) (ae (aF h 3 rfl bz rfl rfl) (ah (aa (aV (ai (ag (ae (bI rfl rfl) (ae (aj (v := (.bool (decide ((a.op : Int) = 1)))) rfl) (ah (aa (aI hs rfl (fun c32 hs => ?_) (fun c32 hs => ?_))))))))))))))
 refine ag (ae (ak iG rfl) (ae (aF h 3 rfl bz rfl rfl) (ae (oK rfl rfl) (ae (au (v := (.bool (decide ((-1000000000 : Int) ≤ a.b)))) rfl) (aD rfl rfl (fun q => ak iG rfl) (aD rfl rfl (fun q => aF h 3 rfl bz (dn q) rfl) (aD rfl rfl (fun q => CE (dn q) rfl) (ae (fZ rfl rfl lV) (ae (aj (v := (.bool ((decide ((-1000000000 : Int) ≤ a.b) && decide ((a.b : Int) ≤ 1000000000))))) rfl) (ah (aA (az ?_))))))))))))
 exact bQ ((decide ((-1000000000 : Int) ≤ a.b) && decide ((a.b : Int) ≤ 1000000000)), 0, a.a, a.b, 0) ⟨h.cn _, hs⟩
 refine ai (ag (ae (bI rfl rfl) (ae (aj (v := (.bool (decide ((a.op : Int) = 5)))) rfl) (ah (aa (aI hs rfl (fun c33 hs => ?_) (fun c33 hs => ?_)))))))
 refine ag (ae (ak iG rfl) (ae (aF h 3 rfl bz rfl rfl) (ae (oK rfl rfl) (ae (au (v := (.bool (decide ((1 : Int) ≤ a.b)))) rfl) (aD rfl rfl (fun q => ak iG rfl) (aD rfl rfl (fun q => aF h 3 rfl bz (dn q) rfl) (aD rfl rfl (fun q => CE (dn q) rfl) (ae (fZ rfl rfl lV) (ae (aj (v := (.bool ((decide ((1 : Int) ≤ a.b) && decide ((a.b : Int) ≤ 4))))) rfl) (ah (aA (az ?_))))))))))))
 exact bQ ((decide ((1 : Int) ≤ a.b) && decide ((a.b : Int) ≤ 4)), 0, a.a, a.b, 0) ⟨h.cn _, hs⟩
 refine bV (σ := Bool) (inl [91, 92, 93]) (fun x34 => [(91, (.bool (x34)))]) (fun x34 w => SH w0 M BE w (hset [(1, .sr fF Cc a.args), (2, .sr jI vc c), (3, .blk b1 [(.int .i64 (a.op)), (.int .i64 (a.a)), (.int .i64 (a.b)), (.int .i64 (a.c)), Cc]), (4, .blk b2 [(.int .i64 (d))]), (5, .blk b8 [(.int .i64 (a.op)), (.int .i64 (a.a)), (.int .i64 (a.b)), (.int .i64 (0)), (.slice none 0 0)])]) ∧ dG a b c d e x34 = some r) ?_ ?_
 rintro x34 w dz ⟨h, hs⟩
 refine aI hs rfl (fun ZB hs => ?_) (fun ZB hs => ?_)
 refine qj 5 mixed (by kernel_rfl) h fun w h => aO (au (v := (.bool ((decide ((0 : Int) ≤ a.c) && decide ((a.c : Int) < 4))))) rfl) (aO (ak qp rfl) (aO (aF h 3 rfl bz rfl rfl) (aO (aj (v := (.bool ((decide ((0 : Int) ≤ a.c) && decide ((a.c : Int) < 4))))) rfl) (aO (ak qp rfl) (xP (fq h 5 [(.int .i64 (a.op)), (.int .i64 (a.a)), (.int .i64 (a.b)), (.int .i64 (a.c)), (.slice none 0 0)] rfl bz rfl rfl rfl rfl rfl fun w h => ah (aA (az ?_))))))))
 exact bQ ((decide ((0 : Int) ≤ a.c) && decide ((a.c : Int) < 4)), 0, a.a, a.b, a.c) ⟨h.cn _, hs⟩
 refine ai (ag (ae (bI rfl rfl) (ae (aj (v := (.bool (decide ((a.op : Int) = 3)))) rfl) (ah (aa (aI hs rfl (fun c36 hs => ?_) (fun c36 hs => ?_)))))))
 refine ai (qj 4 mixed (by kernel_rfl) h fun w h => aO (ak qp rfl) (aO (aF h 3 rfl bz rfl rfl) (aO (aj (v := (.int .i64 (1))) rfl) (aO (ak qp rfl) (xP (fq h 5 [(.int .i64 (a.op)), (.int .i64 (a.a)), (.int .i64 (a.b)), (.int .i64 (a.c)), (.slice none 0 0)] rfl bz rfl rfl rfl rfl rfl fun w h => ah (aa (ag (ae (ak vT rfl) (ae (aF h 3 rfl uC rfl rfl) (ae (bY bW rfl (h.je 1 rfl)) (ae (bI rfl rfl) (ae (au (v := (.bool (decide (((a.args.length : Int) : Int) = 1)))) rfl) (lW (b := decide (((a.args.length : Int) : Int) = 1)) hs (fun c37 hs => ?_) (fun c37 hs => ?_)))))))))))))))
 refine eY rfl (congrArg Value.bool c37) (ae (ak vT rfl) (eY rfl (congrArg Value.bool c37) (ae (aF h 3 rfl uC rfl rfl) (eY rfl (congrArg Value.bool c37) ?_))))
 obtain ⟨x38, e39, hs⟩ := aQ hs
 obtain ⟨b41, o42, cs43, h, r44, i40⟩ := h.Bt 1 7 rfl bW rfl (aJ e39).1 (aJ e39).2
 obtain rfl := r44
 refine ae (i40 _ _ _ _ _ _ _ _ _ rfl rfl) (eY rfl (congrArg Value.bool c37) (ae (eF (k := 0) h 7 rfl bz rfl rfl) (eY rfl (congrArg Value.bool c37) (ae (oK rfl rfl) (ae (fw (b := true) (v := (.bool (decide ((1 : Int) ≤ x38)))) (congrArg Value.bool c37) rfl) (ae (au (v := (.bool (decide ((1 : Int) ≤ x38)))) rfl) (aD rfl rfl (fun q => ak vT rfl) (aD rfl rfl (fun q => aF h 3 rfl uC (dn q) rfl) ?_))))))))
 obtain ⟨b46, o47, cs48, h, r49, i45⟩ := h.Bt 1 8 rfl bW rfl (aJ e39).1 (aJ e39).2
 obtain rfl := r49
 refine aD rfl rfl (fun q => i45 _ _ _ _ _ _ _ _ _ (dn q) rfl) (aD rfl rfl (fun q => eF (k := 0) h 8 rfl bz (dn q) rfl) (aD rfl rfl (fun q => CE (dn q) rfl) (ae (fZ rfl rfl lV) (ae (aj (v := (.bool ((decide ((1 : Int) ≤ x38) && decide ((x38 : Int) ≤ 5))))) rfl) (ah (aA (az ?_)))))))
 exact bQ ((decide ((1 : Int) ≤ x38) && decide ((x38 : Int) ≤ 5)), 1, a.a, a.b, a.c) ⟨h.cn _, hs⟩
 refine dh (b' := false) rfl (congrArg Value.bool c37) rfl (dh (b' := false) rfl (congrArg Value.bool c37) rfl (dh (b' := false) rfl (congrArg Value.bool c37) rfl (dh (b' := false) rfl (congrArg Value.bool c37) rfl (dh (b' := false) rfl (congrArg Value.bool c37) rfl (ae (fw (b := false) (v := (.bool (false))) (congrArg Value.bool c37) rfl) (ae (au (v := (.bool (false))) rfl) (dh (b' := false) rfl rfl rfl (dh (b' := false) rfl rfl rfl (dh (b' := false) rfl rfl rfl (dh (b' := false) rfl rfl rfl (dh (b' := false) rfl rfl rfl (ae (fw (b := false) (v := (.bool (false))) rfl rfl) (ae (aj (v := (.bool (false))) rfl) (ah (aA (az ?_))))))))))))))))
 exact bQ (false, 1, a.a, a.b, a.c) ⟨h.cn _, hs⟩
 refine bV (σ := Bool) (inl [121, 122, 123]) (fun YD => [(121, (.bool (YD)))]) (fun YD w => SH w0 M BE w (hset [(1, .sr fF Cc a.args), (2, .sr jI vc c), (3, .blk b1 [(.int .i64 (a.op)), (.int .i64 (a.a)), (.int .i64 (a.b)), (.int .i64 (a.c)), Cc]), (4, .blk b2 [(.int .i64 (d))]), (5, .blk b8 [(.int .i64 (a.op)), (.int .i64 (a.a)), (.int .i64 (a.b)), (.int .i64 (0)), (.slice none 0 0)])]) ∧ dE a b c d e YD = some r) ?_ ?_
 rintro YD w dz ⟨h, hs⟩
 refine aI hs rfl (fun c51 hs => ?_) (fun c51 hs => ?_)
 refine ag (ae (ak iG rfl) (ae (aF h 3 rfl bz rfl rfl) (ae (oK rfl rfl) (ae (au (v := (.bool (decide ((0 : Int) ≤ a.b)))) rfl) (aD rfl rfl (fun q => ak iG rfl) (aD rfl rfl (fun q => aF h 3 rfl bz (dn q) rfl) (aD rfl rfl (fun q => au (v := (.int .i64 (e))) rfl) (aD rfl rfl (fun q => dN (dn q) (dn q)) (ae (fZ rfl rfl lV) (ae (aj (v := (.bool ((decide ((0 : Int) ≤ a.b) && decide ((a.b : Int) < e))))) rfl) (ah (aA (az ?_)))))))))))))
 exact bQ ((decide ((0 : Int) ≤ a.b) && decide ((a.b : Int) < e)), 0, a.a, a.b, 0) ⟨h.cn _, hs⟩
 refine ai (ag (ae (bI rfl rfl) (ae (aj (v := (.bool (decide ((a.op : Int) = 7)))) rfl) (ah (aa (aI hs rfl (fun Bv hs => ?_) (fun Bv hs => ?_)))))))
 refine ai (ai (ag (ae (ak iG rfl) (ae (aF h 3 rfl bz rfl rfl) (ae (dN rfl rfl) (ae (au (v := (.bool (decide ((a.b : Int) < 0)))) rfl) (aD rfl rfl (fun q => ak iG rfl) (aD rfl rfl (fun q => aF h 3 rfl bz (dn q) rfl) (aD rfl rfl (fun q => au (v := vc) rfl) (aD rfl rfl (fun q => bY jv (dn q) (h.je 2 rfl)) (aD rfl rfl (fun q => oK (dn q) (dn q)) (ae (gu rfl rfl lV) (ah (aa (aI hs rfl (fun c53 hs => ?_) (fun c53 hs => ?_))))))))))))))))
 refine ai (ag (ae (aj (v := (.int .i64 (5))) rfl) (ah (aa (aK (aC (aH (aC (cK (v := (.int .i64 (5))) Tryz.results86 rfl ?_)))))))))
 obtain rfl := Option.some.inj hs
 exact ⟨h.grown, rfl⟩
 refine aG (aa (ag (ae (au (v := vc) rfl) (ae (ak iG rfl) (ae (aF h 3 rfl bz rfl rfl) ?_)))))
 obtain ⟨x54, e55, hs⟩ := aQ hs
 obtain ⟨b57, o58, Z4, h, Z5, i56⟩ := h.Bt 2 9 rfl jv rfl (aJ e55).1 (aJ e55).2
 obtain ⟨u61, rfl, Z6⟩ := nG Z5
 replace h := h.cZ 10 Z6.up
 refine ae (i56 _ _ _ _ _ _ _ _ _ rfl rfl) (ae (ak CX rfl) (ae (eF (k := 0) h 9 rfl bz rfl rfl) (ae (aj (v := (.int .i64 (x54.params))) rfl) (ah (aA (az ?_))))))
 exact bQ ((bM a.op).2.2.2, x54.params, a.a, a.b, 0) ⟨h.cn _, hs⟩
 refine bV (σ := Bool) (inl [151, 152, 153, 154]) (fun pO => [(151, (.bool (pO)))]) (fun pO w => SH w0 M BE w (hset [(1, .sr fF Cc a.args), (3, .blk b1 [(.int .i64 (a.op)), (.int .i64 (a.a)), (.int .i64 (a.b)), (.int .i64 (a.c)), Cc]), (4, .blk b2 [(.int .i64 (d))]), (5, .blk b8 [(.int .i64 (a.op)), (.int .i64 (a.a)), (.int .i64 (a.b)), (.int .i64 (0)), (.slice none 0 0)])]) ∧ dx a b c d pO = some r) ?_ ?_
 rintro pO w dz ⟨h, hs⟩
 refine aI hs rfl (fun c64 hs => ?_) (fun c64 hs => ?_)
 refine ag (ae (ak iG rfl) (fq h 5 [(.int .i64 (a.op)), (.int .i64 (a.a)), (.int .i64 (0)), (.int .i64 (0)), (.slice none 0 0)] rfl bz rfl rfl rfl rfl rfl fun w h => ah (aA (az ?_))))
 exact bQ ((bM a.op).2.2.2, 0, a.a, 0, 0) ⟨h.cn _, hs⟩
 refine ai (ag (ae (bI rfl rfl) (ae (aj (v := (.bool (decide ((a.op : Int) = 10)))) rfl) (ah (aa (aI hs rfl (fun vg hs => ?_) (fun vg hs => ?_)))))))
 refine ag (ae (ak j3 rfl) (fq h 5 [(.int .i64 (a.op)), (.int .i64 (0)), (.int .i64 (a.b)), (.int .i64 (0)), (.slice none 0 0)] rfl bz rfl rfl rfl rfl rfl fun w h => ae (ak iG rfl) (fq h 5 [(.int .i64 (a.op)), (.int .i64 (0)), (.int .i64 (0)), (.int .i64 (0)), (.slice none 0 0)] rfl bz rfl rfl rfl rfl rfl fun w h => ah (aA (az ?_)))))
 exact bQ ((bM a.op).2.2.2, 0, 0, 0, 0) ⟨h.cn _, hs⟩
 refine aG (aA (az ?_))
 exact bQ ((bM a.op).2.2.2, 0, a.a, a.b, 0) ⟨h.cn _, hs⟩
 refine ai (ag (ae (bI rfl rfl) (ae (aj (v := (.bool (decide ((a.op : Int) = 8)))) rfl) (ah (aa (aI hs rfl (fun c66 hs => ?_) (fun c66 hs => ?_)))))))
 refine aG (az ?_)
 exact bQ (decide ((a.op : Int) = 8)) ⟨h.cn _, hs⟩
 refine ai (ag (ae (bI rfl rfl) (ae (aj (v := (.bool (decide ((a.op : Int) = 9)))) rfl) (ah (aa (aI hs rfl (fun c67 hs => ?_) (fun c67 hs => ?_)))))))
 refine aG (az ?_)
 exact bQ (decide ((a.op : Int) = 9)) ⟨h.cn _, hs⟩
 refine ag (ae (bI rfl rfl) (ae (aj (v := (.bool (decide ((a.op : Int) = 11)))) rfl) (ah (az ?_))))
 exact bQ (decide ((a.op : Int) = 11)) ⟨h.cn _, hs⟩
 refine ai (ag (ae (bI rfl rfl) (ae (aj (v := (.bool (decide ((a.op : Int) = 12)))) rfl) (ah (aa (aI hs rfl (fun c68 hs => ?_) (fun c68 hs => ?_)))))))
 refine aG (az ?_)
 exact bQ (decide ((a.op : Int) = 12)) ⟨h.cn _, hs⟩
 refine ag (ae (bI rfl rfl) (ae (aj (v := (.bool (decide ((a.op : Int) = 13)))) rfl) (ah (az ?_))))
 exact bQ (decide ((a.op : Int) = 13)) ⟨h.cn _, hs⟩
 refine ai (ag (ae (bI rfl rfl) (ae (aj (v := (.bool (decide ((a.op : Int) = 4)))) rfl) (ah (aa (aI hs rfl (fun c69 hs => ?_) (fun c69 hs => ?_)))))))
 refine aG (az ?_)
 exact bQ (decide ((a.op : Int) = 4)) ⟨h.cn _, hs⟩
 refine ag (ae (bI rfl rfl) (ae (aj (v := (.bool (decide ((a.op : Int) = 6)))) rfl) (ah (az ?_))))
 exact bQ (decide ((a.op : Int) = 6)) ⟨h.cn _, hs⟩
def fI (a : List bP) (Ce : bP) (i35 : Int) (sH : Ins) (s : Unit) (Ki : Unit → Option Int) : Option Int :=
  (gF sH i35 a Ce.regs (Ce.code.length : Int)).bind fun FB => bif decide ((FB : Int) ≠ 0) then some FB else Ki ()
def mK (Ce : bP) (kW : Unit → Option Int) (s : Unit) : Option Int :=
  gz (jA ((Ce.code.length : Int) - 1)) ((idx Ce.code ((Ce.code.length : Int) - 1)).bind fun x54 => bif (decide ((x54.op : Int) ≠ 8) && decide ((x54.op : Int) ≠ 12)) then some 4 else kW ())
def jC (a : List bP) (Ce : bP) (s : Unit) (kW : Unit → Option Int) : Option Int :=
  fT (fI a Ce) (mK Ce kW) 0 Ce.code ()
def mM (s : Unit) : Option Int :=
  some 0
def iE (i3 : Int) (x4 : bP) (s : Unit) (J5 : Unit → Option Int) : Option Int :=
  bif (((((decide ((x4.params : Int) < 0) || decide ((3 : Int) < x4.params)) || decide ((x4.regs : Int) < 1)) || decide ((x4.regs : Int) < x4.params)) || decide ((40 : Int) < x4.regs)) || (decide ((i3 : Int) = 0) && decide ((0 : Int) < x4.params))) then some 3 else bif (decide (((x4.code.length : Int) : Int) = 0) || decide ((2000 : Int) < (x4.code.length : Int))) then some 2 else J5 ()
def lg (a : List bP) (s : Unit) : Option Int :=
  each (jC a) mM a ()
def pQ (a : List bP) : Option Int :=
  bif (decide (((a.length : Int) : Int) = 0) || decide ((4 : Int) < (a.length : Int))) then some 2 else fT iE (lg a) 0 a ()
theorem Df (w0 : World) (M : BS) (hM : ∀ b, M b → b < w0.heap.size) (va : Value) (a : List bP) (ha : gp jI w0 BE M va a) (r : Int) (hs : pQ a = some r) :
    Calls Tryz.prog 63 #[va] w0 (fun e w' => Grow w0 w' ∧ e = .returned (.int .i64 r)) := by
 refine aS (args := [va]) Tryz.func63 rfl Tryz.ntmps63 (Nat.le_of_ble_eq_true rfl) ?_
 have h := SH.init hM
 replace h := h.il 1 ha bR
 have u7 := ha.cO
 refine ai (ag (ae (aj (v := (.int .i64 (0))) rfl) (ah (aa (ai (ai (ag (ae (au (v := va) rfl) (ae (bY jv rfl (h.je 1 rfl)) (ae (bI rfl rfl) (ae (au (v := (.bool (decide (((a.length : Int) : Int) = 0)))) rfl) (aD rfl rfl (fun q => au (v := va) rfl) (aD rfl rfl (fun q => bY jv (dn q) (h.je 1 rfl)) (aD rfl rfl (fun q => jH (dn q) rfl) (ae (gu rfl rfl lV) (ah (aa (aI hs rfl (fun c1 hs => ?_) (fun c1 hs => ?_)))))))))))))))))))
 refine ai (ag (ae (aj (v := (.int .i64 (2))) rfl) (ah (aa (aK (aC (cK (v := (.int .i64 (2))) Tryz.results63 rfl ?_)))))))
 obtain rfl := Option.some.inj hs
 exact ⟨h.grown, rfl⟩
 refine aG (aa (ai (ai (ag (ae (au (v := va) rfl) (ae (bY jv rfl (h.je 1 rfl)) (ae (au (v := (.int .i64 (0))) rfl) (ah (aa (aV (gT (σ := Nat × Int) (inl [2, 3, 4, 21, 22, 23, 24, 25, 26, 27, 28, 29, 30, 31, 32, 33, 34, 35, 36, 37, 38, 39, 40, 41, 42, 43, 44, 45, 46, 47, 48, 49, 50, 51, 52, 53, 54, 55, 56, 57, 58, 59, 60, 61, 62, 63, 64, 65, 66, 67, 68, 69, 70]) (fun ⟨k2, i3⟩ => [(21, (.int .i64 (i3)))]) (fun ⟨k2, i3⟩ w => SH w0 M BE w (hset [(1, .sr jI va a)]) ∧ i3 = (k2 : Int) ∧ fT iE (lg a) i3 (a.drop k2) () = some r) (fun ⟨k2, i3⟩ => a.length - k2) ⟨0, 0⟩ ⟨rfl, trivial⟩ ?_ ?_)))))))))))
 exact ⟨h.cn _, rfl, hs⟩
 rintro ⟨k2, i3⟩ w dz ⟨h, hik, hs⟩
 refine ai (ag ?_)
 refine ae (dN rfl rfl) (ah (aa ?_))
 refine ai (iJ rfl (fun e7 => ?_) (fun e7 => ?_))
 refine aG (aa ?_)
 obtain ⟨x4, Zh, Zi⟩ := gL (hik ▸ e7)
 rw [Zi, jr] at hs
 generalize MP : fT iE (lg a) (i3 + 1) (a.drop (k2 + 1)) = J5 at hs
 have Xr := gP ((h.je 1 rfl)).cO hik e7
 refine ai (aV (ai (ag (ae (au (v := (.int .i64 (i3))) rfl) ?_))))
 obtain ⟨b10, o11, Zj, h, Zk, i9⟩ := h.Bt 1 2 rfl jv rfl (jl hik) (gN hik Zh)
 obtain ⟨Pt, rfl, g15⟩ := nG Zk
 replace h := h.cZ 3 g15.up
 refine ae (i9 _ _ _ _ _ _ _ _ _ rfl rfl) (ae (jW (k := 0) (vs := [(.int .i64 (x4.params)), (.int .i64 (x4.regs)), Pt]) h 2 rfl uZ rfl rfl rfl (Nat.le_of_ble_eq_true rfl)) (bT h 4 uZ fun w b16 h => ae (aj (v := (.int .i64 (i3))) rfl) (dm (vs := [(.int .i64 (x4.params)), (.int .i64 (x4.regs)), Pt]) h 4 [(.int .i64 (x4.params)), (.int .i64 (x4.regs)), Pt] rfl uZ rfl rfl rfl rfl rfl (ax rfl (ax rfl (ax (h.gB 3 rfl).one aZ))) fun w h => ah (aa (ai (ai (ag (ae (ak CX rfl) (ae (aF h 4 rfl bz rfl rfl) (ae (dN rfl rfl) (ae (au (v := (.bool (decide ((x4.params : Int) < 0)))) rfl) (aD rfl rfl (fun q => ak CX rfl) (aD rfl rfl (fun q => aF h 4 rfl bz (dn q) rfl) (aD rfl rfl (fun q => jH (dn q) rfl) (ae (gu rfl rfl lV) (ae (au (v := (.bool ((decide ((x4.params : Int) < 0) || decide ((3 : Int) < x4.params))))) rfl) (aD rfl rfl (fun q => ak yZ rfl) (aD rfl rfl (fun q => aF h 4 rfl bz (dn q) rfl) (aD rfl rfl (fun q => dN (dn q) rfl) (ae (gu rfl rfl lV) (ae (au (v := (.bool (((decide ((x4.params : Int) < 0) || decide ((3 : Int) < x4.params)) || decide ((x4.regs : Int) < 1))))) rfl) ?_)))))))))))))))))))))
 refine aD rfl rfl (fun q => ak yZ rfl) (aD rfl rfl (fun q => aF h 4 rfl bz (dn q) rfl) (aD rfl rfl (fun q => ak CX rfl) (aD rfl rfl (fun q => aF h 4 rfl bz (dn q) rfl) (aD rfl rfl (fun q => dN (dn q) (dn q)) (ae (gu rfl rfl lV) (ae (au (v := (.bool ((((decide ((x4.params : Int) < 0) || decide ((3 : Int) < x4.params)) || decide ((x4.regs : Int) < 1)) || decide ((x4.regs : Int) < x4.params))))) rfl) (aD rfl rfl (fun q => ak yZ rfl) (aD rfl rfl (fun q => aF h 4 rfl bz (dn q) rfl) (aD rfl rfl (fun q => jH (dn q) rfl) (ae (gu rfl rfl lV) (ae (au (v := (.bool (((((decide ((x4.params : Int) < 0) || decide ((3 : Int) < x4.params)) || decide ((x4.regs : Int) < 1)) || decide ((x4.regs : Int) < x4.params)) || decide ((40 : Int) < x4.regs))))) rfl) (aD rfl rfl (fun q => au (v := (.int .i64 (i3))) rfl) (aD rfl rfl (fun q => bI (dn q) rfl) (aD rfl rfl (fun q => au (v := (.bool (decide ((i3 : Int) = 0)))) (dn q)) (kr (((((decide ((x4.params : Int) < 0) || decide ((3 : Int) < x4.params)) || decide ((x4.regs : Int) < 1)) || decide ((x4.regs : Int) < x4.params)) || decide ((40 : Int) < x4.regs)) == false) rfl rfl (fun q => ak CX rfl) (kr (((((decide ((x4.params : Int) < 0) || decide ((3 : Int) < x4.params)) || decide ((x4.regs : Int) < 1)) || decide ((x4.regs : Int) < x4.params)) || decide ((40 : Int) < x4.regs)) == false) rfl rfl (fun q => aF h 4 rfl bz (dn q) rfl) (kr (((((decide ((x4.params : Int) < 0) || decide ((3 : Int) < x4.params)) || decide ((x4.regs : Int) < 1)) || decide ((x4.regs : Int) < x4.params)) || decide ((40 : Int) < x4.regs)) == false) rfl rfl (fun q => jH (dn q) rfl) (aD rfl rfl (fun q => fZ (dn q) (OZ q) lV) (ae (gu rfl rfl lV) (ah (aa (aI hs rfl (fun c17 hs => ?_) (fun c17 hs => ?_)))))))))))))))))))))))
 refine ai (ag (ae (aj (v := (.int .i64 (3))) rfl) (ah (aa (aK (aC (aH (aC (aC (aH (aC (cK (v := (.int .i64 (3))) Tryz.results63 rfl ?_))))))))))))
 obtain rfl := Option.some.inj hs
 exact ⟨h.grown, rfl⟩
 refine aG (aa (ai (ag (ae (ak rf rfl) (ae (aF h 4 rfl zC rfl rfl) (ae (bY jg rfl (h.oZ 3 rfl)) (ae (bI rfl rfl) (ae (au (v := (.bool (decide (((x4.code.length : Int) : Int) = 0)))) rfl) (aD rfl rfl (fun q => ak rf rfl) (aD rfl rfl (fun q => aF h 4 rfl zC (dn q) rfl) (aD rfl rfl (fun q => bY jg (dn q) (h.oZ 3 rfl)) (aD rfl rfl (fun q => jH (dn q) rfl) (ae (gu rfl rfl lV) (ah (aa (aI hs rfl (fun c18 hs => ?_) (fun c18 hs => ?_)))))))))))))))))
 refine ai (ag (ae (aj (v := (.int .i64 (2))) rfl) (ah (aa (aK (aH (aC (aC (aH (aC (cK (v := (.int .i64 (2))) Tryz.results63 rfl ?_)))))))))))
 obtain rfl := Option.some.inj hs
 exact ⟨h.grown, rfl⟩
 refine aG (aA (aa (ag (ae (dw rfl rfl Xr) (ae (au (v := (.int .i64 ((i3 + 1)))) rfl) (ah (az ?_)))))))
 subst MP
 exact jV ⟨k2 + 1, i3 + 1⟩ ⟨h.cn _, by omega, hs⟩ (by have := of_decide_eq_true e7; dsimp only; omega)
 rw [gM (hik ▸ e7), ql] at hs
 refine df (aN (aN (bE (aa (ai (ai (ag (ae (au (v := va) rfl) (ae (bY jv rfl (h.je 1 rfl)) (ae (au (v := (.int .i64 (0))) rfl) (ah (aa (aV (gT (σ := Nat × Int) (inl [2, 6, 7, 8, 9, 10, 73, 74, 75, 76, 77, 78, 79, 80, 81, 82, 83, 84, 85, 86, 87, 88, 89, 90, 91, 92, 93, 94, 95, 96, 97, 98, 99, 100, 101, 102, 103, 104, 105, 106, 107, 108, 109, 110, 111, 112, 113]) (fun ⟨k19, i20⟩ => [(73, (.int .i64 (i20)))]) (fun ⟨k19, i20⟩ w => SH w0 M BE w (hset [(1, .sr jI va a)]) ∧ i20 = (k19 : Int) ∧ each (jC a) mM (a.drop k19) () = some r) (fun ⟨k19, i20⟩ => a.length - k19) ⟨0, 0⟩ ⟨rfl, trivial⟩ ?_ ?_))))))))))))))
 exact ⟨h.cn _, rfl, hs⟩
 rintro ⟨k19, i20⟩ w dz ⟨h, hik, hs⟩
 refine ai (ag ?_)
 refine ae (dN rfl rfl) (ah (aa ?_))
 refine ai (iJ rfl (fun e24 => ?_) (fun e24 => ?_))
 refine aG (aa ?_)
 obtain ⟨Ce, e25a, e25b⟩ := gL (hik ▸ e24)
 rw [e25b, dO] at hs
 generalize Su : each (jC a) mM (a.drop (k19 + 1)) = kW at hs
 have e25r := gP ((h.je 1 rfl)).cO hik e24
 refine ai (aV (ai (ag ?_)))
 obtain ⟨b27, o28, cs29, h, Z7, i26⟩ := h.Bt 1 5 rfl jv rfl (jl hik) (gN hik e25a)
 obtain ⟨u31, rfl, g32⟩ := nG Z7
 replace h := h.cZ 6 g32.up
 refine ae (i26 _ _ _ _ _ _ _ _ _ rfl rfl) (ae (jW (k := 0) (vs := [(.int .i64 (Ce.params)), (.int .i64 (Ce.regs)), u31]) h 5 rfl uZ rfl rfl rfl (Nat.le_of_ble_eq_true rfl)) (bT h 7 uZ fun w ZG h => dm (vs := [(.int .i64 (Ce.params)), (.int .i64 (Ce.regs)), u31]) h 7 [(.int .i64 (Ce.params)), (.int .i64 (Ce.regs)), u31] rfl uZ rfl rfl rfl rfl rfl (ax rfl (ax rfl (ax (h.gB 6 rfl).one aZ))) fun w h => ah (aa (ai (ai (ag (ae (ak rf rfl) (ae (aF h 7 rfl zC rfl rfl) (ae (bY jg rfl (h.oZ 6 rfl)) (ae (au (v := (.int .i64 (0))) rfl) (ah (aa (aV (gT (σ := Nat × Int) (inl [2, 7, 8, 9, 80, 81, 82, 83, 84, 85, 86, 87, 88, 89, 90, 91, 92, 93, 94, 95, 96, 97]) (fun ⟨Lm, i35⟩ => [(80, (.int .i64 (i35)))]) (fun ⟨Lm, i35⟩ w => SH w0 M BE w (hset [(1, .sr jI va a), (6, .rd jm u31 Ce.code), (7, .blk ZG [(.int .i64 (Ce.params)), (.int .i64 (Ce.regs)), u31])]) ∧ i35 = (Lm : Int) ∧ fT (fI a Ce) (mK Ce kW) i35 (Ce.code.drop Lm) () = some r) (fun ⟨Lm, i35⟩ => Ce.code.length - Lm) ⟨0, 0⟩ ⟨rfl, trivial⟩ ?_ ?_))))))))))))))
 exact ⟨h.cn _, rfl, hs⟩
 rintro ⟨Lm, i35⟩ w dz ⟨h, hik, hs⟩
 refine ai (ag ?_)
 refine ae (dN rfl rfl) (ah (aa ?_))
 refine ai (iJ rfl (fun e39 => ?_) (fun e39 => ?_))
 refine aG (aa ?_)
 obtain ⟨sH, XQ, XR⟩ := gL (hik ▸ e39)
 rw [XR, jr] at hs
 generalize SG : fT (fI a Ce) (mK Ce kW) (i35 + 1) (Ce.code.drop (Lm + 1)) = Ki at hs
 have XT := gP ((h.oZ 6 rfl)).cO hik e39
 refine ai (aV (ai (ag (ae (au (v := (.int .i64 (i35))) rfl) ?_))))
 obtain ⟨b42, o43, cs44, h, r45, i41⟩ := h.DI 6 8 rfl jg rfl (jl hik) (gN hik XQ)
 obtain ⟨u46, rfl, g47⟩ := AV r45
 replace h := h.cZ 9 g47.up
 refine ae (i41 _ _ _ _ _ _ _ _ _ rfl rfl) (ae (jW (k := 0) (vs := [(.int .i64 (sH.op)), (.int .i64 (sH.a)), (.int .i64 (sH.b)), (.int .i64 (sH.c)), u46]) h 8 rfl pq rfl rfl rfl (Nat.le_of_ble_eq_true rfl)) (bT h 10 pq fun w b48 h => ae (aj (v := (.int .i64 (i35))) rfl) (dm (vs := [(.int .i64 (sH.op)), (.int .i64 (sH.a)), (.int .i64 (sH.b)), (.int .i64 (sH.c)), u46]) h 10 [(.int .i64 (sH.op)), (.int .i64 (sH.a)), (.int .i64 (sH.b)), (.int .i64 (sH.c)), u46] rfl pq rfl rfl rfl rfl rfl (ax rfl (ax rfl (ax rfl (ax rfl (ax (h.gB 9 rfl).one aZ))))) fun w h => ah (aa (ai (ag (ae (dS (vs := [(.int .i64 (sH.op)), (.int .i64 (sH.a)), (.int .i64 (sH.b)), (.int .i64 (sH.c)), u46]) h 10 rfl pq rfl rfl rfl) (ae (au (v := (.int .i64 (i35))) rfl) (ae (au (v := va) rfl) (ae (ak yZ rfl) (ae (aF h 7 rfl bz rfl rfl) (ae (ak rf rfl) (ae (aF h 7 rfl zC rfl rfl) (ae (bY jg rfl (h.oZ 6 rfl)) ?_))))))))))))))
 obtain ⟨FB, e50, hs⟩ := aQ hs
 refine bA Xo rfl rfl (Kh _ _ h.lt sH u46 (h.oZ 9 rfl) i35 va a (h.je 1 rfl) Ce.regs (Ce.code.length : Int) _ e50) ?_
 rintro _ w ⟨Zu, rfl⟩
 refine ⟨_, rfl, ?_⟩
 replace h := h.grow Zu
 refine ae (aj (v := (.int .i64 (FB))) rfl) (ah (aa (ai (ag (ae (au (v := (.int .i64 (FB))) rfl) (ae (gq rfl rfl) (ah (aa (aI hs rfl (fun Bv hs => ?_) (fun Bv hs => ?_))))))))))
 refine ai (ag (ae (au (v := (.int .i64 (FB))) rfl) (ae (aj (v := (.int .i64 (FB))) rfl) (ah (aa (aK (aH (aC (aC (aH (aC (aH (aC (aC (aH (aC (cK (v := (.int .i64 (FB))) Tryz.results63 rfl ?_)))))))))))))))))
 obtain rfl := Option.some.inj hs
 exact ⟨h.grown, rfl⟩
 refine aG (aA (aa (ag (ae (dw rfl rfl XT) (ae (au (v := (.int .i64 ((i35 + 1)))) rfl) (ah (az ?_)))))))
 subst SG
 exact jV ⟨Lm + 1, i35 + 1⟩ ⟨h.cn _, by omega, hs⟩ (by have := of_decide_eq_true e39; dsimp only; omega)
 rw [gM (hik ▸ e39), ql] at hs
 refine df (aN (aN (bE (aa (ai (ag (ae (ak rf rfl) (ae (aF h 7 rfl zC rfl rfl) (ae (ak rf rfl) (ae (aF h 7 rfl zC rfl rfl) (ae (bY jg rfl (h.oZ 6 rfl)) ?_)))))))))))
 obtain ⟨a53, hs⟩ := bG hs
 refine ae (oh rfl rfl a53) ?_
 obtain ⟨x54, e55, hs⟩ := aQ hs
 obtain ⟨b57, o58, Z4, h, Z5, i56⟩ := h.DI 6 11 rfl jg rfl (aJ e55).1 (aJ e55).2
 obtain ⟨u61, rfl, Z6⟩ := AV Z5
 replace h := h.cZ 12 Z6.up
 refine ae (i56 _ _ _ _ _ _ _ _ _ rfl rfl) (ae (ak oP rfl) (ae (eF (k := 0) h 11 rfl bz rfl rfl) (ae (aj (v := (.int .i64 (x54.op))) rfl) (ah (aa (ai (ag (ae (au (v := (.int .i64 (x54.op))) rfl) (ae (gq rfl rfl) (ae (au (v := (.bool (decide ((x54.op : Int) ≠ 8)))) rfl) (aD rfl rfl (fun q => au (v := (.int .i64 (x54.op))) rfl) (aD rfl rfl (fun q => gq (dn q) rfl) (ae (fZ rfl rfl lV) (ah (aa (aI hs rfl (fun Gv hs => ?_) (fun Gv hs => ?_)))))))))))))))))
 refine ai (ag (ae (aj (v := (.int .i64 (4))) rfl) (ah (aa (aK (aH (aC (aC (aH (aC (cK (v := (.int .i64 (4))) Tryz.results63 rfl ?_)))))))))))
 obtain rfl := Option.some.inj hs
 exact ⟨h.grown, rfl⟩
 refine aG (aA (aa (ag (ae (dw rfl rfl e25r) (ae (au (v := (.int .i64 ((i20 + 1)))) rfl) (ah (az ?_)))))))
 subst Su
 exact jV ⟨k19 + 1, i20 + 1⟩ ⟨h.cn _, by omega, hs⟩ (by have := of_decide_eq_true e24; dsimp only; omega)
 rw [gM (hik ▸ e24), gU] at hs
 refine df (aN (aN (bE (aa (ai (ag (ae (aj (v := (.int .i64 (0))) rfl) (ah (aa (aK (cK (v := (.int .i64 (0))) Tryz.results63 rfl ?_)))))))))))
 obtain rfl := Option.some.inj hs
 exact ⟨h.grown, rfl⟩
def Kj (a : List bP) : Option (LX.State × Int) :=
  (pQ a).bind fun y2 => bif decide ((y2 : Int) ≠ 0) then some ((⟨[], [], 0, 0⟩ : LX.State), y2) else (idx a 0).bind fun x6 => gz (0 ≤ x6.regs ∧ x6.regs * 16 ≤ 140737488355328) (some ((⟨[(⟨0, 0, (List.replicate x6.regs.toNat (⟨0, 0⟩ : Val)), 0⟩ : LX.Frame)], [], 0, 0⟩ : LX.State), 0))
theorem SI (w0 : World) (M : BS) (hM : ∀ b, M b → b < w0.heap.size) (va : Value) (a : List bP) (ha : gp jI w0 BE M va a) (r : LX.State × Int) (hs : Kj a = some r) :
    Calls Tryz.prog 29 #[va] w0 (fun e w' => Grow w0 w' ∧ ∃ wH, ∃ zM, e = .returned (.tuple #[.agg #[wH, zM, .int .i64 r.1.status, .int .i64 r.1.aW], .int .i64 r.2]) ∧ fo iD w' M wH r.1.frames ∧ fo (uY aM) w' M zM r.1.cells) := by
 refine aS (args := [va]) Tryz.func29 rfl Tryz.ntmps29 (Nat.le_of_ble_eq_true rfl) ?_
 have h := SH.init hM
 replace h := h.il 1 ha bR
 have u7 := ha.cO
 refine ai (ag (bT h 2 cu fun w b1 h => ae (aj (v := (.int .i64 (0))) rfl) (ah (aa (ai (ai (ag (ae (au (v := va) rfl) ?_))))))))
 obtain ⟨y2, e3, hs⟩ := aQ hs
 refine bA RD rfl rfl (Df _ _ h.lt va a (h.je 1 rfl) _ e3) ?_
 rintro _ w ⟨k4, rfl⟩
 refine ⟨_, rfl, ?_⟩
 replace h := h.grow k4
 refine ae (aj (v := (.int .i64 (y2))) rfl) (ah (aa (ai (ag (ae (au (v := (.int .i64 (y2))) rfl) (ae (gq rfl rfl) (ah (aa (aI hs rfl (fun c5 hs => ?_) (fun c5 hs => ?_))))))))))
 refine ai (ag (ae (dC (pv := []) (out := [(.slice none 0 0), (.slice none 0 0), (.int .i64 (0)), (.int .i64 (0))]) pF rfl rfl) (ae (au (v := (.int .i64 (y2))) rfl) (dm (vs := [(.slice none 0 0), (.slice none 0 0), (.int .i64 (0)), (.int .i64 (0))]) h 2 [(.slice none 0 0), (.slice none 0 0), (.int .i64 (0)), (.int .i64 (0))] rfl cu rfl rfl rfl rfl rfl (ax rfl (ax rfl (ax rfl (ax rfl aZ)))) fun w h => ae (aj (v := (.int .i64 (y2))) rfl) (ah (aa (aK (aC (jN (vs := [(.slice none 0 0), (.slice none 0 0), (.int .i64 (0)), (.int .i64 (0))]) (v2 := (.int .i64 (y2))) Tryz.results29 rfl rfl h 2 rfl cu rfl ?_)))))))))
 obtain rfl := Option.some.inj hs
 exact ⟨h.grown, _, _, rfl, gp.nil, gp.nil⟩
 refine aG (aa (ai (ag (ae (au (v := va) rfl) ?_))))
 obtain ⟨x6, e7, hs⟩ := aQ hs
 obtain ⟨b9, o10, cs11, h, Zr, i8⟩ := h.Bt 1 3 rfl jv rfl (aJ e7).1 (aJ e7).2
 obtain ⟨Ml, rfl, g14⟩ := nG Zr
 replace h := h.cZ 4 g14.up
 refine ae (i8 _ _ _ _ _ _ _ _ _ rfl rfl) (ae (ak yZ rfl) (ae (eF (k := 1) h 3 rfl bz rfl rfl) ?_))
 obtain ⟨a16, hs⟩ := bG hs
 refine xR (R := aM) (zs := [(.int .i64 (0)), (.int .i64 (0))]) (a := (⟨0, 0⟩ : Val)) h 5 uz bS rfl (by decide) rfl rfl a16 rfl (fun _ _ => rfl) fun w FN h u15k u15f => ae (dC (pv := [(2, FN)]) (out := [(.int .i64 (0)), (.int .i64 (0)), FN, (.int .i64 (0))]) Gi rfl ⟨2, 1, [FN], rfl, (iT (h.dD 5 rfl).one), rfl, Nat.le_of_ble_eq_true rfl, rfl⟩) ?_
 replace h := h.freeze 5 rfl
 refine uw (R := iD) (vs := [(.agg #[(.int .i64 (0)), (.int .i64 (0)), FN, (.int .i64 (0))])]) (xs := [(⟨0, 0, (List.replicate x6.regs.toNat (⟨0, 0⟩ : Val)), 0⟩ : LX.Frame)]) h 6 pg rfl rfl rfl ⟨⟨_, rfl, (h.gB 5 rfl)⟩, trivial⟩ rfl fun w C9 h => ae (dC (pv := [(0, C9)]) (out := [C9, (.slice none 0 0), (.int .i64 (0)), (.int .i64 (0))]) pF rfl ⟨0, 1, [C9], rfl, (iT (h.dD 6 rfl).one), rfl, Nat.le_of_ble_eq_true rfl, rfl⟩) (dm (vs := [C9, (.slice none 0 0), (.int .i64 (0)), (.int .i64 (0))]) h 2 [C9, (.slice none 0 0), (.int .i64 (0)), (.int .i64 (0))] rfl cu rfl rfl rfl rfl rfl (ax (h.dD 6 rfl).one (ax rfl (ax rfl (ax rfl aZ)))) fun w h => ae (aj (v := (.int .i64 (0))) rfl) (ah (aa (aK (jN (vs := [C9, (.slice none 0 0), (.int .i64 (0)), (.int .i64 (0))]) (v2 := (.int .i64 (0))) Tryz.results29 rfl rfl h 2 rfl cu rfl ?_)))))
 replace h := h.freeze 6 rfl
 obtain rfl := Option.some.inj hs
 exact ⟨h.grown, _, _, rfl, h.Q4 6 rfl, gp.nil⟩
def cB (a : Val) (b : Int) : Int :=
  bif decide ((a.kind : Int) = 0) then bif decide ((a.n : Int) ≠ 0) then 4 else 0 else bif decide ((a.kind : Int) = 1) then bif (decide ((a.n : Int) < -1000000000) || decide ((1000000000 : Int) < a.n)) then 3 else 0 else bif decide ((a.kind : Int) = 2) then bif (decide ((a.n : Int) < 0) || decide ((b : Int) ≤ a.n)) then 5 else 0 else 4
theorem zl (w0 : World) (M : BS) (hM : ∀ b, M b → b < w0.heap.size) (a : Val) (b : Int) (r : Int) (hs : cB a b = r) :
    Calls Tryz.prog 81 #[(.agg #[(.int .i64 (a.kind)), (.int .i64 (a.n))]), (.int .i64 (b))] w0 (fun e w' => Grow w0 w' ∧ e = .returned (.int .i64 r)) := by
 refine aS (args := [(.agg #[(.int .i64 (a.kind)), (.int .i64 (a.n))]), (.int .i64 (b))]) Tryz.func81 rfl Tryz.ntmps81 (Nat.le_of_ble_eq_true rfl) ?_
 have h := SH.init hM
 refine ai (ag (rF (cs := [(.int .i64 (a.kind)), (.int .i64 (a.n))]) h 1 rfl rfl fun w b1 h => ae (aj (v := (.int .i64 (0))) rfl) (ah (aa (ai (ai (ag (ae (ak sD rfl) (ae (aF h 1 rfl bz rfl rfl) (ah (aa (aV (ai (ag (ae (bI rfl rfl) (ae (aj (v := (.bool (decide ((a.kind : Int) = 0)))) rfl) (ah (aa (aI hs rfl (fun c2 hs => ?_) (fun c2 hs => ?_))))))))))))))))))))
 refine ai (ag (ae (ak iw rfl) (ae (aF h 1 rfl bz rfl rfl) (ae (gq rfl rfl) (ah (aa (aI hs rfl (fun c3 hs => ?_) (fun c3 hs => ?_))))))))
 refine ai (ag (ae (aj (v := (.int .i64 (4))) rfl) (ah (aa (aK (aH (aC (cK (v := (.int .i64 (4))) Tryz.results81 rfl ?_))))))))
 obtain rfl := hs
 exact ⟨h.grown, rfl⟩
 refine aG (aA (aa (ai (ag (ae (aj (v := (.int .i64 (0))) rfl) (ah (aa (aK (cK (v := (.int .i64 (0))) Tryz.results81 rfl ?_)))))))))
 obtain rfl := hs
 exact ⟨h.grown, rfl⟩
 refine ai (ag (ae (bI rfl rfl) (ae (aj (v := (.bool (decide ((a.kind : Int) = 1)))) rfl) (ah (aa (aI hs rfl (fun c4 hs => ?_) (fun c4 hs => ?_)))))))
 refine ai (ag (ae (ak iw rfl) (ae (aF h 1 rfl bz rfl rfl) (ae (dN rfl rfl) (ae (au (v := (.bool (decide ((a.n : Int) < -1000000000)))) rfl) (aD rfl rfl (fun q => ak iw rfl) (aD rfl rfl (fun q => aF h 1 rfl bz (dn q) rfl) (aD rfl rfl (fun q => jH (dn q) rfl) (ae (gu rfl rfl lV) (ah (aa (aI hs rfl (fun c5 hs => ?_) (fun c5 hs => ?_)))))))))))))
 refine ai (ag (ae (aj (v := (.int .i64 (3))) rfl) (ah (aa (aK (aH (aC (cK (v := (.int .i64 (3))) Tryz.results81 rfl ?_))))))))
 obtain rfl := hs
 exact ⟨h.grown, rfl⟩
 refine aG (aA (aa (ai (ag (ae (aj (v := (.int .i64 (0))) rfl) (ah (aa (aK (cK (v := (.int .i64 (0))) Tryz.results81 rfl ?_)))))))))
 obtain rfl := hs
 exact ⟨h.grown, rfl⟩
 refine ai (ag (ae (bI rfl rfl) (ae (aj (v := (.bool (decide ((a.kind : Int) = 2)))) rfl) (ah (aa (aI hs rfl (fun c6 hs => ?_) (fun c6 hs => ?_)))))))
 refine ai (ag (ae (ak iw rfl) (ae (aF h 1 rfl bz rfl rfl) (ae (dN rfl rfl) (ae (au (v := (.bool (decide ((a.n : Int) < 0)))) rfl) (aD rfl rfl (fun q => ak iw rfl) (aD rfl rfl (fun q => aF h 1 rfl bz (dn q) rfl) (aD rfl rfl (fun q => au (v := (.int .i64 (b))) rfl) (aD rfl rfl (fun q => oK (dn q) (dn q)) (ae (gu rfl rfl lV) (ah (aa (aI hs rfl (fun c7 hs => ?_) (fun c7 hs => ?_))))))))))))))
 refine ai (ag (ae (aj (v := (.int .i64 (5))) rfl) (ah (aa (aK (aH (aC (cK (v := (.int .i64 (5))) Tryz.results81 rfl ?_))))))))
 obtain rfl := hs
 exact ⟨h.grown, rfl⟩
 refine aG (aA (aa (ai (ag (ae (aj (v := (.int .i64 (0))) rfl) (ah (aa (aK (cK (v := (.int .i64 (0))) Tryz.results81 rfl ?_)))))))))
 obtain rfl := hs
 exact ⟨h.grown, rfl⟩
 refine ai (ag (ae (aj (v := (.int .i64 (4))) rfl) (ah (aa (aK (aH (aC (cK (v := (.int .i64 (4))) Tryz.results81 rfl ?_))))))))
 obtain rfl := hs
 exact ⟨h.grown, rfl⟩
def gG (a : List (List Val)) (zm : Val) (s : Unit) (RP : Unit → Int) : Int :=
  bif decide (((cB zm (a.length : Int)) : Int) ≠ 0) then (cB zm (a.length : Int)) else RP ()
def fO (J5 : Unit → Int) (s : Unit) : Int :=
  J5 ()
def iC (a : List (List Val)) (x4 : List Val) (s : Unit) (J5 : Unit → Int) : Int :=
  bif (decide (((x4.length : Int) : Int) = 0) || decide ((4 : Int) < (x4.length : Int))) then 2 else each (gG a) (fO J5) x4 ()
def gH (s : Unit) : Int :=
  0
def dB (a : List (List Val)) : Int :=
  bif decide ((24 : Int) < (a.length : Int)) then 2 else each (iC a) gH a ()
theorem zF (w0 : World) (M : BS) (hM : ∀ b, M b → b < w0.heap.size) (va : Value) (a : List (List Val)) (ha : gp (uY aM) w0 BE M va a) (r : Int) (hs : dB a = r) :
    Calls Tryz.prog 80 #[va] w0 (fun e w' => Grow w0 w' ∧ e = .returned (.int .i64 r)) := by
 refine aS (args := [va]) Tryz.func80 rfl Tryz.ntmps80 (Nat.le_of_ble_eq_true rfl) ?_
 have h := SH.init hM
 replace h := h.il 1 ha bR
 have u7 := ha.cO
 refine ai (ag (ae (aj (v := (.int .i64 (0))) rfl) (ah (aa (ai (ai (ag (ae (au (v := va) rfl) (ae (bY gK rfl (h.je 1 rfl)) (ae (jH rfl rfl) (ah (aa (aI hs rfl (fun c1 hs => ?_) (fun c1 hs => ?_))))))))))))))
 refine ai (ag (ae (aj (v := (.int .i64 (2))) rfl) (ah (aa (aK (aC (cK (v := (.int .i64 (2))) Tryz.results80 rfl ?_)))))))
 obtain rfl := hs
 exact ⟨h.grown, rfl⟩
 refine aG (aa (ai (ai (ag (ae (au (v := va) rfl) (ae (bY gK rfl (h.je 1 rfl)) (ae (au (v := (.int .i64 (0))) rfl) (ah (aa (aV (gT (σ := Nat × Int) (inl [2, 4, 6, 7, 13, 14, 15, 16, 17, 18, 19, 20, 21, 22, 23, 24, 25, 26, 27, 28, 29, 30, 31, 32, 33, 34, 35, 36, 37, 38, 39]) (fun ⟨k2, i3⟩ => [(13, (.int .i64 (i3)))]) (fun ⟨k2, i3⟩ w => SH w0 M BE w (hset [(1, .sr (uY aM) va a)]) ∧ i3 = (k2 : Int) ∧ each (iC a) gH (a.drop k2) () = r) (fun ⟨k2, i3⟩ => a.length - k2) ⟨0, 0⟩ ⟨rfl, trivial⟩ ?_ ?_)))))))))))
 exact ⟨h.cn _, rfl, hs⟩
 rintro ⟨k2, i3⟩ w dz ⟨h, hik, hs⟩
 refine ai (ag ?_)
 refine ae (dN rfl rfl) (ah (aa ?_))
 refine ai (iJ rfl (fun e7 => ?_) (fun e7 => ?_))
 refine aG (aa ?_)
 obtain ⟨x4, Zh, Zi⟩ := gL (hik ▸ e7)
 rw [Zi, dO] at hs
 generalize MP : each (iC a) gH (a.drop (k2 + 1)) = J5 at hs
 have Xr := gP ((h.je 1 rfl)).cO hik e7
 refine ai (aV (ai (ag ?_)))
 obtain ⟨b10, o11, Zj, h, Zk, i9⟩ := h.Bt 1 2 rfl gK rfl (jl hik) (gN hik Zh)
 obtain ⟨Pt, rfl, g15⟩ := Zk
 replace h := h.cZ 3 g15.up
 refine ae (i9 _ _ _ _ _ _ _ _ _ rfl rfl) (ae (eF (k := 0) h 2 rfl pE rfl rfl) (ae (aj (v := Pt) rfl) (ah (aa (ai (ai (ag (ae (au (v := Pt) rfl) (ae (bY bX rfl (h.oZ 3 rfl)) (ae (bI rfl rfl) (ae (au (v := (.bool (decide (((x4.length : Int) : Int) = 0)))) rfl) (aD rfl rfl (fun q => au (v := Pt) rfl) (aD rfl rfl (fun q => bY bX (dn q) (h.oZ 3 rfl)) (aD rfl rfl (fun q => jH (dn q) rfl) (ae (gu rfl rfl lV) (ah (aa (aI hs rfl (fun c16 hs => ?_) (fun c16 hs => ?_)))))))))))))))))))
 refine ai (ag (ae (aj (v := (.int .i64 (2))) rfl) (ah (aa (aK (aC (aH (aC (aC (aH (aC (cK (v := (.int .i64 (2))) Tryz.results80 rfl ?_))))))))))))
 obtain rfl := hs
 exact ⟨h.grown, rfl⟩
 refine aG (aa (ai (ag (ae (au (v := Pt) rfl) (ae (bY bX rfl (h.oZ 3 rfl)) (ae (au (v := (.int .i64 (0))) rfl) (ah (aa (aV (gT (σ := Nat × Int) (inl [2, 6, 7, 27, 28, 29, 30, 31, 32, 33, 34, 35, 36, 37, 38]) (fun ⟨k17, i18⟩ => [(27, (.int .i64 (i18)))]) (fun ⟨k17, i18⟩ w => SH w0 M BE w (hset [(1, .sr (uY aM) va a), (3, .rd aM Pt x4)]) ∧ i18 = (k17 : Int) ∧ each (gG a) (fO J5) (x4.drop k17) () = r) (fun ⟨k17, i18⟩ => x4.length - k17) ⟨0, 0⟩ ⟨rfl, trivial⟩ ?_ ?_))))))))))
 exact ⟨h.cn _, rfl, hs⟩
 rintro ⟨k17, i18⟩ w dz ⟨h, hik, hs⟩
 refine ai (ag ?_)
 refine ae (dN rfl rfl) (ah (aa ?_))
 refine ai (iJ rfl (fun e22 => ?_) (fun e22 => ?_))
 refine aG (aa ?_)
 obtain ⟨zm, e23a, e23b⟩ := gL (hik ▸ e22)
 rw [e23b, dO] at hs
 generalize RQ : each (gG a) (fO J5) (x4.drop (k17 + 1)) = RP at hs
 have e23r := gP ((h.oZ 3 rfl)).cO hik e22
 refine ai (aV (ai (ag ?_)))
 obtain ⟨b25, o26, cs27, h, r28, i24⟩ := h.DI 3 4 rfl bX rfl (jl hik) (gN hik e23a)
 obtain rfl := r28
 refine ae (i24 _ _ _ _ _ _ _ _ _ rfl rfl) (ae (jW (k := 0) (vs := [(.int .i64 (zm.kind)), (.int .i64 (zm.n))]) h 4 rfl bS rfl rfl rfl (Nat.le_of_ble_eq_true rfl)) (bT h 5 bS fun w b29 h => dm (vs := [(.int .i64 (zm.kind)), (.int .i64 (zm.n))]) h 5 [(.int .i64 (zm.kind)), (.int .i64 (zm.n))] rfl bS rfl rfl rfl rfl rfl (ax rfl (ax rfl aZ)) fun w h => ah (aa (ai (ag (ae (dS (vs := [(.int .i64 (zm.kind)), (.int .i64 (zm.n))]) h 5 rfl bS rfl rfl rfl) (ae (au (v := va) rfl) (ae (bY gK rfl (h.je 1 rfl)) (bA ML rfl rfl (zl _ _ h.lt zm (a.length : Int) _ rfl) ?_)))))))))
 rintro _ w ⟨k30, rfl⟩
 refine ⟨_, rfl, ?_⟩
 replace h := h.grow k30
 refine ae (aj (v := (.int .i64 ((cB zm (a.length : Int))))) rfl) (ah (aa (ai (ag (ae (au (v := (.int .i64 ((cB zm (a.length : Int))))) rfl) (ae (gq rfl rfl) (ah (aa (aI hs rfl (fun c31 hs => ?_) (fun c31 hs => ?_))))))))))
 refine ai (ag (ae (au (v := (.int .i64 ((cB zm (a.length : Int))))) rfl) (ae (aj (v := (.int .i64 ((cB zm (a.length : Int))))) rfl) (ah (aa (aK (aH (aC (aC (aH (aH (aC (aC (aH (aC (cK (v := (.int .i64 ((cB zm (a.length : Int))))) Tryz.results80 rfl ?_))))))))))))))))
 obtain rfl := hs
 exact ⟨h.grown, rfl⟩
 refine aG (aA (aa (ag (ae (dw rfl rfl e23r) (ae (au (v := (.int .i64 ((i18 + 1)))) rfl) (ah (az ?_)))))))
 subst RQ
 exact jV ⟨k17 + 1, i18 + 1⟩ ⟨h.cn _, by omega, hs⟩ (by have := of_decide_eq_true e22; dsimp only; omega)
 rw [gM (hik ▸ e22), gU] at hs
 refine df (aN (aN (bE (aA (aa (ag (ae (dw rfl rfl Xr) (ae (au (v := (.int .i64 ((i3 + 1)))) rfl) (ah (az ?_))))))))))
 subst MP
 exact jV ⟨k2 + 1, i3 + 1⟩ ⟨h.cn _, by omega, hs⟩ (by have := of_decide_eq_true e7; dsimp only; omega)
 rw [gM (hik ▸ e7), gU] at hs
 refine df (aN (aN (bE (aa (ai (ag (ae (aj (v := (.int .i64 (0))) rfl) (ah (aa (aK (cK (v := (.int .i64 (0))) Tryz.results80 rfl ?_)))))))))))
 obtain rfl := hs
 exact ⟨h.grown, rfl⟩
def l6 (b : LX.State) (x38 : Val) (s : Unit) (SC : Unit → Option Int) : Option Int :=
  bif decide (((cB x38 (b.cells.length : Int)) : Int) ≠ 0) then some (cB x38 (b.cells.length : Int)) else SC ()
def l7 (Gw : Unit → Option Int) (s : Unit) : Option Int :=
  Gw ()
def qy (x9 : LX.Frame) (xg : bP) (b : LX.State) (Gw : Unit → Option Int) (yg : Bool) : Option Int :=
  bif yg then some 3 else bif decide (((x9.regs.length : Int) : Int) ≠ xg.regs) then some 4 else each (l6 b) (l7 Gw) x9.regs ()
def qz (a : List bP) (b : LX.State) (i8 : Int) (x9 : LX.Frame) (s : Unit) (Gw : Unit → Option Int) : Option Int :=
  bif (decide ((x9.proc : Int) < 0) || decide (((a.length : Int) : Int) ≤ x9.proc)) then some 5 else (idx a x9.proc).bind fun xg => bif (((decide ((x9.at_ : Int) < 0) || decide (((xg.code.length : Int) : Int) ≤ x9.at_)) || decide ((x9.qY : Int) < 0)) || (decide ((i8 : Int) = 0) && decide ((x9.qY : Int) ≠ 0))) then qy x9 xg b Gw true else bif decide ((0 : Int) < i8) then gz (jA (i8 - 1)) ((idx b.frames (i8 - 1)).bind fun x54 => qy x9 xg b Gw (decide (((x54.regs.length : Int) : Int) ≤ x9.qY))) else qy x9 xg b Gw false
def sW (s : Unit) : Option Int :=
  some 0
def wI (a : List bP) (b : LX.State) : Option Int :=
  bif (((decide ((b.status : Int) < 0) || decide ((3 : Int) < b.status)) || decide ((b.aW : Int) < -1000000000)) || decide ((1000000000 : Int) < b.aW)) then some 3 else bif ((decide ((b.status : Int) ≠ 3) && decide ((b.aW : Int) ≠ 0)) || (decide ((b.status : Int) = 1) != decide (((b.frames.length : Int) : Int) = 0))) then some 4 else bif decide ((10 : Int) < (b.frames.length : Int)) then some 2 else bif decide (((dB b.cells) : Int) ≠ 0) then some (dB b.cells) else fT (qz a b) sW 0 b.frames ()
theorem Nk (w0 : World) (M : BS) (hM : ∀ b, M b → b < w0.heap.size) (va : Value) (a : List bP) (ha : gp jI w0 BE M va a) (b : LX.State) (vb0 vb1 : Value) (hb0 : gp iD w0 BE M vb0 b.frames) (hb1 : gp (uY aM) w0 BE M vb1 b.cells) (r : Int) (hs : wI a b = some r) :
    Calls Tryz.prog 64 #[va, (.agg #[vb0, vb1, (.int .i64 (b.status)), (.int .i64 (b.aW))])] w0 (fun e w' => Grow w0 w' ∧ e = .returned (.int .i64 r)) := by
 refine aS (args := [va, (.agg #[vb0, vb1, (.int .i64 (b.status)), (.int .i64 (b.aW))])]) Tryz.func64 rfl Tryz.ntmps64 (Nat.le_of_ble_eq_true rfl) ?_
 have h := SH.init hM
 replace h := h.il 1 ha bR
 replace h := h.il 2 hb0 (eT bR)
 replace h := h.il 3 hb1 (eT (eT bR))
 have u7 := ha.cO
 refine ai (ag (rF (cs := [vb0, vb1, (.int .i64 (b.status)), (.int .i64 (b.aW))]) h 4 rfl rfl fun w b1 h => ae (aj (v := (.int .i64 (0))) rfl) (ah (aa (ai (ai (ag (ae (ak iN rfl) (ae (aF h 4 rfl bz rfl rfl) (ae (dN rfl rfl) (ae (au (v := (.bool (decide ((b.status : Int) < 0)))) rfl) (aD rfl rfl (fun q => ak iN rfl) (aD rfl rfl (fun q => aF h 4 rfl bz (dn q) rfl) (aD rfl rfl (fun q => jH (dn q) rfl) (ae (gu rfl rfl lV) (ae (au (v := (.bool ((decide ((b.status : Int) < 0) || decide ((3 : Int) < b.status))))) rfl) (aD rfl rfl (fun q => ak CW rfl) (aD rfl rfl (fun q => aF h 4 rfl bz (dn q) rfl) (aD rfl rfl (fun q => dN (dn q) rfl) (ae (gu rfl rfl lV) (ae (au (v := (.bool (((decide ((b.status : Int) < 0) || decide ((3 : Int) < b.status)) || decide ((b.aW : Int) < -1000000000))))) rfl) (aD rfl rfl (fun q => ak CW rfl) ?_))))))))))))))))))))))
 refine aD rfl rfl (fun q => aF h 4 rfl bz (dn q) rfl) (aD rfl rfl (fun q => jH (dn q) rfl) (ae (gu rfl rfl lV) (ah (aa (aI hs rfl (fun c2 hs => ?_) (fun c2 hs => ?_))))))
 refine ai (ag (ae (aj (v := (.int .i64 (3))) rfl) (ah (aa (aK (aC (cK (v := (.int .i64 (3))) Tryz.results64 rfl ?_)))))))
 obtain rfl := Option.some.inj hs
 exact ⟨h.grown, rfl⟩
 refine aG (aa (ai (ai (ag (ae (ak iN rfl) (ae (aF h 4 rfl bz rfl rfl) (ae (gq rfl rfl) (ae (au (v := (.bool (decide ((b.status : Int) ≠ 3)))) rfl) (aD rfl rfl (fun q => ak CW rfl) (aD rfl rfl (fun q => aF h 4 rfl bz (dn q) rfl) (aD rfl rfl (fun q => gq (dn q) rfl) (ae (fZ rfl rfl lV) (ae (au (v := (.bool ((decide ((b.status : Int) ≠ 3) && decide ((b.aW : Int) ≠ 0))))) rfl) (aD rfl rfl (fun q => ak iN rfl) (aD rfl rfl (fun q => aF h 4 rfl bz (dn q) rfl) (aD rfl rfl (fun q => bI (dn q) rfl) (aD rfl rfl (fun q => ak eU rfl) (aD rfl rfl (fun q => aF h 4 rfl ji (dn q) rfl) (aD rfl rfl (fun q => bY dQ (dn q) (h.je 2 rfl)) (aD rfl rfl (fun q => bI (dn q) rfl) (aD rfl rfl (fun q => WA Tryz.underlying4 (dn q) (dn q)) (ae (gu rfl rfl lV) (ah ?_)))))))))))))))))))))))
 refine aa (aI hs rfl (fun c3 hs => ?_) (fun c3 hs => ?_))
 refine ai (ag (ae (aj (v := (.int .i64 (4))) rfl) (ah (aa (aK (aC (cK (v := (.int .i64 (4))) Tryz.results64 rfl ?_)))))))
 obtain rfl := Option.some.inj hs
 exact ⟨h.grown, rfl⟩
 refine aG (aa (ai (ai (ag (ae (ak eU rfl) (ae (aF h 4 rfl ji rfl rfl) (ae (bY dQ rfl (h.je 2 rfl)) (ae (jH rfl rfl) (ah (aa (aI hs rfl (fun c4 hs => ?_) (fun c4 hs => ?_))))))))))))
 refine ai (ag (ae (aj (v := (.int .i64 (2))) rfl) (ah (aa (aK (aC (cK (v := (.int .i64 (2))) Tryz.results64 rfl ?_)))))))
 obtain rfl := Option.some.inj hs
 exact ⟨h.grown, rfl⟩
 refine aG (aa (ai (ai (ag (ae (ak jZ rfl) (ae (aF h 4 rfl pz rfl rfl) (bA RF rfl rfl (zF _ _ h.lt vb1 b.cells (h.je 3 rfl) _ rfl) ?_)))))))
 rintro _ w ⟨k5, rfl⟩
 refine ⟨_, rfl, ?_⟩
 replace h := h.grow k5
 refine ae (aj (v := (.int .i64 ((dB b.cells)))) rfl) (ah (aa (ai (ag (ae (au (v := (.int .i64 ((dB b.cells)))) rfl) (ae (gq rfl rfl) (ah (aa (aI hs rfl (fun c6 hs => ?_) (fun c6 hs => ?_))))))))))
 refine ai (ag (ae (au (v := (.int .i64 ((dB b.cells)))) rfl) (ae (aj (v := (.int .i64 ((dB b.cells)))) rfl) (ah (aa (aK (aC (cK (v := (.int .i64 ((dB b.cells)))) Tryz.results64 rfl ?_))))))))
 obtain rfl := Option.some.inj hs
 exact ⟨h.grown, rfl⟩
 refine aG (aa (ai (ai (ag (ae (ak eU rfl) (ae (aF h 4 rfl ji rfl rfl) (ae (bY dQ rfl (h.je 2 rfl)) (ae (au (v := (.int .i64 (0))) rfl) (ah (aa (aV (gT (σ := Nat × Int) (inl [4, 6, 7, 8, 10, 11, 61, 62, 63, 64, 65, 66, 67, 68, 69, 70, 71, 72, 73, 74, 75, 76, 77, 78, 79, 80, 81, 82, 83, 84, 85, 86, 87, 88, 89, 90, 91, 92, 93, 94, 95, 96, 97, 98, 99, 100, 101, 102, 103, 104, 105, 106, 107, 108, 109, 110, 111, 112, 113, 114, 115, 116, 117, 118, 119, 120, 121, 122, 123, 124, 125, 126, 127, 128, 129, 130, 131, 132, 133, 134, 135, 136, 137, 138, 139, 140, 141, 142, 143, 144, 145]) (fun ⟨k7, i8⟩ => [(61, (.int .i64 (i8)))]) (fun ⟨k7, i8⟩ w => SH w0 M BE w (hset [(1, .sr jI va a), (2, .sr iD vb0 b.frames), (3, .sr (uY aM) vb1 b.cells), (4, .blk b1 [vb0, vb1, (.int .i64 (b.status)), (.int .i64 (b.aW))])]) ∧ i8 = (k7 : Int) ∧ fT (qz a b) sW i8 (b.frames.drop k7) () = some r) (fun ⟨k7, i8⟩ => b.frames.length - k7) ⟨0, 0⟩ ⟨rfl, trivial⟩ ?_ ?_))))))))))))
 exact ⟨h.cn _, rfl, hs⟩
 rintro ⟨k7, i8⟩ w dz ⟨h, hik, hs⟩
 refine ai (ag ?_)
 refine ae (dN rfl rfl) (ah (aa ?_))
 refine ai (iJ rfl (fun e12 => ?_) (fun e12 => ?_))
 refine aG (aa ?_)
 obtain ⟨x9, e13a, e13b⟩ := gL (hik ▸ e12)
 rw [e13b, jr] at hs
 generalize Z8 : fT (qz a b) sW (i8 + 1) (b.frames.drop (k7 + 1)) = Gw at hs
 have e13r := gP ((h.je 2 rfl)).cO hik e12
 refine ai (aV (ai (ag (ae (au (v := (.int .i64 (i8))) rfl) ?_))))
 obtain ⟨b15, o16, cs17, h, r18, i14⟩ := h.Bt 2 5 rfl dQ rfl (jl hik) (gN hik e13a)
 obtain ⟨K4, rfl, g20⟩ := Aa r18
 replace h := h.cZ 6 g20.up
 refine ae (i14 _ _ _ _ _ _ _ _ _ rfl rfl) (ae (jW (k := 0) (vs := [(.int .i64 (x9.proc)), (.int .i64 (x9.at_)), K4, (.int .i64 (x9.qY))]) h 5 rfl ma rfl rfl rfl (Nat.le_of_ble_eq_true rfl)) (bT h 7 ma fun w Ig h => ae (aj (v := (.int .i64 (i8))) rfl) (dm (vs := [(.int .i64 (x9.proc)), (.int .i64 (x9.at_)), K4, (.int .i64 (x9.qY))]) h 7 [(.int .i64 (x9.proc)), (.int .i64 (x9.at_)), K4, (.int .i64 (x9.qY))] rfl ma rfl rfl rfl rfl rfl (ax rfl (ax rfl (ax (h.gB 6 rfl).one (ax rfl aZ)))) fun w h => ah (aa (ai (ai (ag (ae (ak A7 rfl) (ae (aF h 7 rfl bz rfl rfl) (ae (dN rfl rfl) (ae (au (v := (.bool (decide ((x9.proc : Int) < 0)))) rfl) (aD rfl rfl (fun q => ak A7 rfl) (aD rfl rfl (fun q => aF h 7 rfl bz (dn q) rfl) (aD rfl rfl (fun q => au (v := va) rfl) (aD rfl rfl (fun q => bY jv (dn q) (h.je 1 rfl)) (aD rfl rfl (fun q => oK (dn q) (dn q)) (ae (gu rfl rfl lV) (ah (aa (aI hs rfl (fun c22 hs => ?_) (fun c22 hs => ?_)))))))))))))))))))))
 refine ai (ag (ae (aj (v := (.int .i64 (5))) rfl) (ah (aa (aK (aC (aH (aC (aC (aH (aC (cK (v := (.int .i64 (5))) Tryz.results64 rfl ?_))))))))))))
 obtain rfl := Option.some.inj hs
 exact ⟨h.grown, rfl⟩
 refine aG (aa (ai (ag (ae (au (v := va) rfl) (ae (ak A7 rfl) (ae (aF h 7 rfl bz rfl rfl) ?_))))))
 obtain ⟨xg, e24, hs⟩ := aQ hs
 obtain ⟨Xq, o27, Vk, h, XK, i25⟩ := h.Bt 1 8 rfl jv rfl (aJ e24).1 (aJ e24).2
 obtain ⟨u30, rfl, Z9⟩ := nG XK
 replace h := h.cZ 9 Z9.up
 refine ae (i25 _ _ _ _ _ _ _ _ _ rfl rfl) (ae (jW (k := 0) (vs := [(.int .i64 (xg.params)), (.int .i64 (xg.regs)), u30]) h 8 rfl uZ rfl rfl rfl (Nat.le_of_ble_eq_true rfl)) (bT h 10 uZ fun w b32 h => dm (vs := [(.int .i64 (xg.params)), (.int .i64 (xg.regs)), u30]) h 10 [(.int .i64 (xg.params)), (.int .i64 (xg.regs)), u30] rfl uZ rfl rfl rfl rfl rfl (ax rfl (ax rfl (ax (h.gB 9 rfl).one aZ))) fun w h => ah (aa (ai (bV (σ := Bool) (inl [81, 82, 83, 84, 85, 86, 87, 88, 89, 90, 91, 92, 93, 94, 95, 96, 97, 98, 99, 100, 101, 102, 103, 104, 105, 106, 107, 108, 109, 110, 111, 112, 113, 114, 115, 116, 117, 118, 119, 120, 121, 122]) (fun yg => [(98, (gv (((decide ((x9.at_ : Int) < 0) || decide (((xg.code.length : Int) : Int) ≤ x9.at_)) || decide ((x9.qY : Int) < 0)) == false) (.int .i64 (i8)))), (100, (gv (((decide ((x9.at_ : Int) < 0) || decide (((xg.code.length : Int) : Int) ≤ x9.at_)) || decide ((x9.qY : Int) < 0)) == false) (.bool (decide ((i8 : Int) = 0))))), (122, (.bool (yg)))]) (fun yg w => SH w0 M BE w (hset [(1, .sr jI va a), (2, .sr iD vb0 b.frames), (3, .sr (uY aM) vb1 b.cells), (4, .blk b1 [vb0, vb1, (.int .i64 (b.status)), (.int .i64 (b.aW))]), (6, .rd aM K4 x9.regs), (7, .blk Ig [(.int .i64 (x9.proc)), (.int .i64 (x9.at_)), K4, (.int .i64 (x9.qY))]), (9, .rd jm u30 xg.code), (10, .blk b32 [(.int .i64 (xg.params)), (.int .i64 (xg.regs)), u30])]) ∧ qy x9 xg b Gw yg = some r) ?_ ?_)))))
 rintro yg w dz ⟨h, hs⟩
 refine aI hs rfl (fun c34 hs => ?_) (fun c34 hs => ?_)
 refine ai (ag (ae (aj (v := (.int .i64 (3))) rfl) (ah (aa (aK (aC (aH (aC (aC (aH (aC (cK (v := (.int .i64 (3))) Tryz.results64 rfl ?_))))))))))))
 obtain rfl := Option.some.inj hs
 exact ⟨h.grown, rfl⟩
 refine aG (aa (ai (ai (ag (ae (ak oO rfl) (ae (aF h 7 rfl pE rfl rfl) (ae (bY bX rfl (h.oZ 6 rfl)) (ae (ak yZ rfl) (ae (aF h 10 rfl bz rfl rfl) (ae (gq rfl rfl) (ah (aa (aI hs rfl (fun ZB hs => ?_) (fun ZB hs => ?_))))))))))))))
 refine ai (ag (ae (aj (v := (.int .i64 (4))) rfl) (ah (aa (aK (aC (aH (aC (aC (aH (aC (cK (v := (.int .i64 (4))) Tryz.results64 rfl ?_))))))))))))
 obtain rfl := Option.some.inj hs
 exact ⟨h.grown, rfl⟩
 refine aG (aa (ai (ag (ae (ak oO rfl) (ae (aF h 7 rfl pE rfl rfl) (ae (bY bX rfl (h.oZ 6 rfl)) (ae (au (v := (.int .i64 (0))) rfl) (ah (aa (aV (gT (σ := Nat × Int) (inl [4, 10, 11, 132, 133, 134, 135, 136, 137, 138, 139, 140, 141, 142, 143, 144]) (fun ⟨Uu, i37⟩ => [(132, (.int .i64 (i37)))]) (fun ⟨Uu, i37⟩ w => SH w0 M BE w (hset [(1, .sr jI va a), (2, .sr iD vb0 b.frames), (3, .sr (uY aM) vb1 b.cells), (4, .blk b1 [vb0, vb1, (.int .i64 (b.status)), (.int .i64 (b.aW))]), (6, .rd aM K4 x9.regs)]) ∧ i37 = (Uu : Int) ∧ each (l6 b) (l7 Gw) (x9.regs.drop Uu) () = some r) (fun ⟨Uu, i37⟩ => x9.regs.length - Uu) ⟨0, 0⟩ ⟨rfl, trivial⟩ ?_ ?_)))))))))))
 exact ⟨h.cn _, rfl, hs⟩
 rintro ⟨Uu, i37⟩ w dz ⟨h, hik, hs⟩
 refine ai (ag ?_)
 refine ae (dN rfl rfl) (ah (aa ?_))
 refine ai (iJ rfl (fun e41 => ?_) (fun e41 => ?_))
 refine aG (aa ?_)
 obtain ⟨x38, e42a, e42b⟩ := gL (hik ▸ e41)
 rw [e42b, dO] at hs
 generalize SE : each (l6 b) (l7 Gw) (x9.regs.drop (Uu + 1)) = SC at hs
 have e42r := gP ((h.oZ 6 rfl)).cO hik e41
 refine ai (aV (ai (ag ?_)))
 obtain ⟨PU, o45, cs46, h, r47, i43⟩ := h.DI 6 11 rfl bX rfl (jl hik) (gN hik e42a)
 obtain rfl := r47
 refine ae (i43 _ _ _ _ _ _ _ _ _ rfl rfl) (ae (jW (k := 0) (vs := [(.int .i64 (x38.kind)), (.int .i64 (x38.n))]) h 11 rfl bS rfl rfl rfl (Nat.le_of_ble_eq_true rfl)) (bT h 12 bS fun w b48 h => dm (vs := [(.int .i64 (x38.kind)), (.int .i64 (x38.n))]) h 12 [(.int .i64 (x38.kind)), (.int .i64 (x38.n))] rfl bS rfl rfl rfl rfl rfl (ax rfl (ax rfl aZ)) fun w h => ah (aa (ai (ag (ae (dS (vs := [(.int .i64 (x38.kind)), (.int .i64 (x38.n))]) h 12 rfl bS rfl rfl rfl) (ae (ak jZ rfl) (ae (aF h 4 rfl pz rfl rfl) (ae (bY gK rfl (h.je 3 rfl)) (bA ML rfl rfl (zl _ _ h.lt x38 (b.cells.length : Int) _ rfl) ?_))))))))))
 rintro _ w ⟨k49, rfl⟩
 refine ⟨_, rfl, ?_⟩
 replace h := h.grow k49
 refine ae (aj (v := (.int .i64 ((cB x38 (b.cells.length : Int))))) rfl) (ah (aa (ai (ag (ae (au (v := (.int .i64 ((cB x38 (b.cells.length : Int))))) rfl) (ae (gq rfl rfl) (ah (aa (aI hs rfl (fun c50 hs => ?_) (fun c50 hs => ?_))))))))))
 refine ai (ag (ae (au (v := (.int .i64 ((cB x38 (b.cells.length : Int))))) rfl) (ae (aj (v := (.int .i64 ((cB x38 (b.cells.length : Int))))) rfl) (ah (aa (aK (aH (aC (aC (aH (aH (aC (aC (aH (aC (cK (v := (.int .i64 ((cB x38 (b.cells.length : Int))))) Tryz.results64 rfl ?_))))))))))))))))
 obtain rfl := Option.some.inj hs
 exact ⟨h.grown, rfl⟩
 refine aG (aA (aa (ag (ae (dw rfl rfl e42r) (ae (au (v := (.int .i64 ((i37 + 1)))) rfl) (ah (az ?_)))))))
 subst SE
 exact jV ⟨Uu + 1, i37 + 1⟩ ⟨h.cn _, by omega, hs⟩ (by have := of_decide_eq_true e41; dsimp only; omega)
 rw [gM (hik ▸ e41), gU] at hs
 refine df (aN (aN (bE (aA (aa (ag (ae (dw rfl rfl e13r) (ae (au (v := (.int .i64 ((i8 + 1)))) rfl) (ah (az ?_))))))))))
 subst Z8
 exact jV ⟨k7 + 1, i8 + 1⟩ ⟨h.cn _, by omega, hs⟩ (by have := of_decide_eq_true e12; dsimp only; omega)
 refine CK mixed (by kernel_rfl) h fun w h => aO (ak xe rfl) (aO (aF h 7 rfl bz rfl rfl) (aO (dN rfl rfl) (aO (au (v := (.bool (decide ((x9.at_ : Int) < 0)))) rfl) (tT rfl rfl (fun q => ak xe rfl) (tT rfl rfl (fun q => aF h 7 rfl bz (dn q) rfl) (tT rfl rfl (fun q => ak rf rfl) (tT rfl rfl (fun q => aF h 10 rfl zC (dn q) rfl) (tT rfl rfl (fun q => bY jg (dn q) (h.oZ 9 rfl)) (tT rfl rfl (fun q => oK (dn q) (dn q)) (aO (gu rfl rfl lV) (aO (au (v := (.bool ((decide ((x9.at_ : Int) < 0) || decide (((xg.code.length : Int) : Int) ≤ x9.at_))))) rfl) (tT rfl rfl (fun q => ak FK rfl) (tT rfl rfl (fun q => aF h 7 rfl bz (dn q) rfl) (tT rfl rfl (fun q => dN (dn q) rfl) (aO (gu rfl rfl lV) (aO (au (v := (.bool (((decide ((x9.at_ : Int) < 0) || decide (((xg.code.length : Int) : Int) ≤ x9.at_)) || decide ((x9.qY : Int) < 0))))) rfl) (tT rfl rfl (fun q => au (v := (.int .i64 (i8))) rfl) (tT rfl rfl (fun q => bI (dn q) rfl) (tT rfl rfl (fun q => au (v := (.bool (decide ((i8 : Int) = 0)))) (dn q)) (Ob (((decide ((x9.at_ : Int) < 0) || decide (((xg.code.length : Int) : Int) ≤ x9.at_)) || decide ((x9.qY : Int) < 0)) == false) rfl rfl (fun q => ak FK rfl) (Ob (((decide ((x9.at_ : Int) < 0) || decide (((xg.code.length : Int) : Int) ≤ x9.at_)) || decide ((x9.qY : Int) < 0)) == false) rfl rfl (fun q => aF h 7 rfl bz (dn q) rfl) (Ob (((decide ((x9.at_ : Int) < 0) || decide (((xg.code.length : Int) : Int) ≤ x9.at_)) || decide ((x9.qY : Int) < 0)) == false) rfl rfl (fun q => gq (dn q) rfl) ?_))))))))))))))))))))))
 refine tT rfl rfl (fun q => fZ (dn q) (OZ q) lV) (aO (gu rfl rfl lV) (aO (au (v := (.bool ((((decide ((x9.at_ : Int) < 0) || decide (((xg.code.length : Int) : Int) ≤ x9.at_)) || decide ((x9.qY : Int) < 0)) || (decide ((i8 : Int) = 0) && decide ((x9.qY : Int) ≠ 0)))))) rfl) (lW (b := (((decide ((x9.at_ : Int) < 0) || decide (((xg.code.length : Int) : Int) ≤ x9.at_)) || decide ((x9.qY : Int) < 0)) || (decide ((i8 : Int) = 0) && decide ((x9.qY : Int) ≠ 0)))) hs (fun c51 hs => ?_) (fun c51 hs => ?_))))
 refine fP (b' := true) rfl (congrArg Value.bool c51) rfl (fP (b' := true) rfl (congrArg Value.bool c51) rfl (fP (b' := true) rfl (congrArg Value.bool c51) rfl (qV rfl rfl (qV rfl rfl (qV rfl rfl (qV rfl rfl (qV rfl rfl (qV rfl rfl (qV rfl rfl (qV rfl rfl (qV rfl rfl (qV rfl rfl (qV rfl rfl (fP (b' := true) rfl (congrArg Value.bool c51) rfl (aO (fw (b := true) (v := (.bool (true))) (congrArg Value.bool c51) rfl) (zT (az ?_)))))))))))))))))
 exact bQ true ⟨h.cn _, hs⟩
 refine iL rfl (congrArg Value.bool c51) (aO (au (v := (.int .i64 (i8))) rfl) (iL rfl (congrArg Value.bool c51) (aO (jH rfl rfl) (iL rfl (congrArg Value.bool c51) (aO (au (v := (.bool (decide ((0 : Int) < i8)))) rfl) (lW (b := decide ((0 : Int) < i8)) hs (fun Bv hs => ?_) (fun Bv hs => ?_)))))))
 refine iL rfl (congrArg Value.bool Bv) (aO (ak FK rfl) (iL rfl (congrArg Value.bool Bv) (aO (aF h 7 rfl bz rfl rfl) (iL rfl (congrArg Value.bool Bv) (aO (ak eU rfl) (iL rfl (congrArg Value.bool Bv) (aO (aF h 4 rfl ji rfl rfl) (iL rfl (congrArg Value.bool Bv) (aO (au (v := (.int .i64 (i8))) rfl) (iL rfl (congrArg Value.bool Bv) ?_))))))))))
 obtain ⟨a53, hs⟩ := bG hs
 refine aO (oh rfl rfl a53) (iL rfl (congrArg Value.bool Bv) ?_)
 obtain ⟨x54, e55, hs⟩ := aQ hs
 obtain ⟨b57, o58, Z4, h, Z5, i56⟩ := h.Bt 2 13 rfl dQ rfl (aJ e55).1 (aJ e55).2
 obtain ⟨u61, rfl, Z6⟩ := Aa Z5
 replace h := h.cZ 14 Z6.up
 refine aO (i56 _ _ _ _ _ _ _ _ _ rfl rfl) (iL rfl (congrArg Value.bool Bv) (aO (ak oO rfl) (iL rfl (congrArg Value.bool Bv) (aO (eF (k := 2) h 13 rfl pE rfl rfl) (iL rfl (congrArg Value.bool Bv) (aO (bY bX rfl (h.oZ 14 rfl)) (iL rfl (congrArg Value.bool Bv) (aO (oK rfl rfl) (iL rfl (congrArg Value.bool c51) (aO (fw (b := true) (v := (.bool (decide (((x54.regs.length : Int) : Int) ≤ x9.qY)))) (congrArg Value.bool Bv) rfl) (aO (fw (b := false) (v := (.bool (decide (((x54.regs.length : Int) : Int) ≤ x9.qY)))) (congrArg Value.bool c51) rfl) (zT (az ?_)))))))))))))
 exact bQ (decide (((x54.regs.length : Int) : Int) ≤ x9.qY)) ⟨h.cn _, hs⟩
 refine fP (b' := false) rfl (congrArg Value.bool Bv) rfl (fP (b' := false) rfl (congrArg Value.bool Bv) rfl (fP (b' := false) rfl (congrArg Value.bool Bv) rfl (fP (b' := false) rfl (congrArg Value.bool Bv) rfl (fP (b' := false) rfl (congrArg Value.bool Bv) rfl (fP (b' := false) rfl (congrArg Value.bool Bv) rfl (fP (b' := false) rfl (congrArg Value.bool Bv) rfl (fP (b' := false) rfl (congrArg Value.bool Bv) rfl (fP (b' := false) rfl (congrArg Value.bool Bv) rfl (fP (b' := false) rfl (congrArg Value.bool Bv) rfl (fP (b' := false) rfl (congrArg Value.bool Bv) rfl (iL rfl (congrArg Value.bool c51) (aO (fw (b := false) (v := (.bool (false))) (congrArg Value.bool Bv) rfl) (aO (fw (b := false) (v := (.bool (false))) (congrArg Value.bool c51) rfl) (zT (az ?_)))))))))))))))
 exact bQ false ⟨h.cn _, hs⟩
 rw [gM (hik ▸ e12), ql] at hs
 refine df (aN (aN (bE (aa (ai (ag (ae (aj (v := (.int .i64 (0))) rfl) (ah (aa (aK (cK (v := (.int .i64 (0))) Tryz.results64 rfl ?_)))))))))))
 obtain rfl := Option.some.inj hs
 exact ⟨h.grown, rfl⟩
def Ah (a : List bP) (b : LX.State) : Option Int :=
  (pQ a).bind fun y2 => bif decide ((y2 : Int) ≠ 0) then some y2 else (wI a b).bind fun y6 => some y6
theorem Gx (w0 : World) (M : BS) (hM : ∀ b, M b → b < w0.heap.size) (va : Value) (a : List bP) (ha : gp jI w0 BE M va a) (b : LX.State) (vb0 vb1 : Value) (hb0 : gp iD w0 BE M vb0 b.frames) (hb1 : gp (uY aM) w0 BE M vb1 b.cells) (r : Int) (hs : Ah a b = some r) :
    Calls Tryz.prog 27 #[va, (.agg #[vb0, vb1, (.int .i64 (b.status)), (.int .i64 (b.aW))])] w0 (fun e w' => Grow w0 w' ∧ e = .returned (.int .i64 r)) := by
 refine aS (args := [va, (.agg #[vb0, vb1, (.int .i64 (b.status)), (.int .i64 (b.aW))])]) Tryz.func27 rfl Tryz.ntmps27 (Nat.le_of_ble_eq_true rfl) ?_
 have h := SH.init hM
 replace h := h.il 1 ha bR
 replace h := h.il 2 hb0 (eT bR)
 replace h := h.il 3 hb1 (eT (eT bR))
 have u7 := ha.cO
 refine ai (ag (rF (cs := [vb0, vb1, (.int .i64 (b.status)), (.int .i64 (b.aW))]) h 4 rfl rfl fun w b1 h => ae (aj (v := (.int .i64 (0))) rfl) (ah (aa (ai (ai (ag (ae (au (v := va) rfl) ?_))))))))
 obtain ⟨y2, e3, hs⟩ := aQ hs
 refine bA RD rfl rfl (Df _ _ h.lt va a (h.je 1 rfl) _ e3) ?_
 rintro _ w ⟨k4, rfl⟩
 refine ⟨_, rfl, ?_⟩
 replace h := h.grow k4
 refine ae (aj (v := (.int .i64 (y2))) rfl) (ah (aa (ai (ag (ae (au (v := (.int .i64 (y2))) rfl) (ae (gq rfl rfl) (ah (aa (aI hs rfl (fun c5 hs => ?_) (fun c5 hs => ?_))))))))))
 refine ai (ag (ae (au (v := (.int .i64 (y2))) rfl) (ae (aj (v := (.int .i64 (y2))) rfl) (ah (aa (aK (aC (cK (v := (.int .i64 (y2))) Tryz.results27 rfl ?_))))))))
 obtain rfl := Option.some.inj hs
 exact ⟨h.grown, rfl⟩
 refine aG (aa (ai (ag (ae (au (v := va) rfl) (ae (dS (vs := [vb0, vb1, (.int .i64 (b.status)), (.int .i64 (b.aW))]) h 4 rfl cu rfl rfl rfl) ?_)))))
 obtain ⟨y6, e7, hs⟩ := aQ hs
 refine bA Xl rfl rfl (Nk _ _ h.lt va a (h.je 1 rfl) b vb0 vb1 (h.je 2 rfl) (h.je 3 rfl) _ e7) ?_
 rintro _ w ⟨k8, rfl⟩
 refine ⟨_, rfl, ?_⟩
 replace h := h.grow k8
 refine ae (aj (v := (.int .i64 (y6))) rfl) (ah (aa (aK (cK (v := (.int .i64 (y6))) Tryz.results27 rfl ?_))))
 obtain rfl := Option.some.inj hs
 exact ⟨h.grown, rfl⟩
theorem pR (w0 : World) (M : BS) (hM : ∀ b, M b → b < w0.heap.size) (va : Value) (a : List LX.Frame) (ha : gp iD w0 BE M va a) (r : List LX.Frame) (hs : clone 48 a = some r) :
    Calls Tryz.prog 83 #[va] w0 (fun e w' => Grow w0 w' ∧ ∃ u0, e = .returned u0 ∧ dL iD 49 w' M u0 r ∧ (∀ b, ob u0 b → w0.heap.size ≤ b)) := by
  obtain ⟨hr, hs⟩ := bG hs
  cases hs
  refine aS (args := [va]) Tryz.func83 rfl Tryz.ntmps83 (Nat.le_of_ble_eq_true rfl) ?_
  have h := (SH.init hM).il 1 ha bR
  refine ai (ag (ae (aj rfl) (ah (aa ?_))))
  refine ai (ai (ag (ae (au rfl) (ae (JB dQ rfl (h.je 1 rfl) rfl) (ah (aa ?_))))))
  refine iJ rfl (fun c => ?_) (fun c => ?_)
  · obtain ⟨c1, c2⟩ := yT (h.je 1 rfl) c
    refine ai (ag (ae (aj rfl) (ah (aa (aK (aC ?_))))))
    refine cK (v := .slice none 0 0) Tryz.results83 rfl ?_
    rw [c2]
    exact ⟨h.grown, _, rfl, dL.nil, jf⟩
  · refine aG (aa ?_)
    refine ai (ag ?_)
    refine uw (R := iD) (vs := []) (xs := []) h 2 pg rfl rfl rfl trivial rfl fun w u h => ?_
    refine ae (au rfl) ?_
    refine mo (R := iD) (m := a) h 2 rfl (h.je 1 rfl) pg rfl rfl rfl hr.1 hr.2 fun w u h => ?_
    refine ae (aj rfl) (ah (aa (aK ?_)))
    refine cK (v := u) Tryz.results83 rfl ?_
    exact ⟨h.grown, _, rfl, (h.lI 2 rfl).1, (h.lI 2 rfl).2⟩
theorem zN (w0 : World) (M : BS) (hM : ∀ b, M b → b < w0.heap.size) (va : Value) (a : List (List Val)) (ha : gp (uY aM) w0 BE M va a) (r : List (List Val)) (hs : clone 24 a = some r) :
    Calls Tryz.prog 114 #[va] w0 (fun e w' => Grow w0 w' ∧ ∃ u0, e = .returned u0 ∧ dL (uY aM) 47 w' M u0 r ∧ (∀ b, ob u0 b → w0.heap.size ≤ b)) := by
  obtain ⟨hr, hs⟩ := bG hs
  cases hs
  refine aS (args := [va]) Tryz.func114 rfl Tryz.ntmps114 (Nat.le_of_ble_eq_true rfl) ?_
  have h := (SH.init hM).il 1 ha bR
  refine ai (ag (ae (aj rfl) (ah (aa ?_))))
  refine ai (ai (ag (ae (au rfl) (ae (JB gK rfl (h.je 1 rfl) rfl) (ah (aa ?_))))))
  refine iJ rfl (fun c => ?_) (fun c => ?_)
  · obtain ⟨c1, c2⟩ := yT (h.je 1 rfl) c
    refine ai (ag (ae (aj rfl) (ah (aa (aK (aC ?_))))))
    refine cK (v := .slice none 0 0) Tryz.results114 rfl ?_
    rw [c2]
    exact ⟨h.grown, _, rfl, dL.nil, jf⟩
  · refine aG (aa ?_)
    refine ai (ag ?_)
    refine uw (R := (uY aM)) (vs := []) (xs := []) h 2 qO rfl rfl rfl trivial rfl fun w u h => ?_
    refine ae (au rfl) ?_
    refine mo (R := (uY aM)) (m := a) h 2 rfl (h.je 1 rfl) qO rfl rfl rfl hr.1 hr.2 fun w u h => ?_
    refine ae (aj rfl) (ah (aa (aK ?_)))
    refine cK (v := u) Tryz.results114 rfl ?_
    exact ⟨h.grown, _, rfl, (h.lI 2 rfl).1, (h.lI 2 rfl).2⟩
theorem uO (w0 : World) (M : BS) (hM : ∀ b, M b → b < w0.heap.size) (va : Value) (a : List Val) (ha : gp aM w0 BE M va a) (r : List Val) (hs : clone 16 a = some r) :
    Calls Tryz.prog 85 #[va] w0 (fun e w' => Grow w0 w' ∧ ∃ u0, e = .returned u0 ∧ dL aM 51 w' M u0 r ∧ (∀ b, ob u0 b → w0.heap.size ≤ b)) := by
  obtain ⟨hr, hs⟩ := bG hs
  cases hs
  refine aS (args := [va]) Tryz.func85 rfl Tryz.ntmps85 (Nat.le_of_ble_eq_true rfl) ?_
  have h := (SH.init hM).il 1 ha bR
  refine ai (ag (ae (aj rfl) (ah (aa ?_))))
  refine ai (ai (ag (ae (au rfl) (ae (JB bX rfl (h.je 1 rfl) rfl) (ah (aa ?_))))))
  refine iJ rfl (fun c => ?_) (fun c => ?_)
  · obtain ⟨c1, c2⟩ := yT (h.je 1 rfl) c
    refine ai (ag (ae (aj rfl) (ah (aa (aK (aC ?_))))))
    refine cK (v := .slice none 0 0) Tryz.results85 rfl ?_
    rw [c2]
    exact ⟨h.grown, _, rfl, dL.nil, jf⟩
  · refine aG (aa ?_)
    refine ai (ag ?_)
    refine uw (R := aM) (vs := []) (xs := []) h 2 uz rfl rfl rfl trivial rfl fun w u h => ?_
    refine ae (au rfl) ?_
    refine mo (R := aM) (m := a) h 2 rfl (h.je 1 rfl) uz rfl rfl rfl hr.1 hr.2 fun w u h => ?_
    refine ae (aj rfl) (ah (aa (aK ?_)))
    refine cK (v := u) Tryz.results85 rfl ?_
    exact ⟨h.grown, _, rfl, (h.lI 2 rfl).1, (h.lI 2 rfl).2⟩
def vU (a : List (List Val)) (i14 : Int) (s : Unit) (Kk : Unit → Option (List (List Val))) : Option (List (List Val)) :=
  (idx a i14).bind fun x20 => (clone 16 x20).bind fun y31 => Kk ()
def vV (a : List (List Val)) (s : Unit) : Option (List (List Val)) :=
  some a
def Bc (a : List (List Val)) : Option (List (List Val)) :=
  (clone 24 a).bind fun y1 => upto (vU a) (vV a) 0 ((a.length : Int)).toNat ()
theorem Ai (w0 : World) (M : BS) (hM : ∀ b, M b → b < w0.heap.size) (va : Value) (a : List (List Val)) (ha : gp (uY aM) w0 BE M va a) (r : List (List Val)) (hs : Bc a = some r) :
    Calls Tryz.prog 84 #[va] w0 (fun e w' => Grow w0 w' ∧ ∃ wH, ∃ yw, e = .returned (wH) ∧ Chunk.holds w' M (Chunk.own' ((.two (.own (aT Val).raw 47 wH (List.zip r yw)) (.bJ (aR aM 51 hn yw (List.map (aT Val).sub r)))) : Chunk)) ((.two (.own (aT Val).raw 47 wH (List.zip r yw)) (.bJ (aR aM 51 hn yw (List.map (aT Val).sub r)))) : Chunk) ∧ (∀ b, Chunk.own' ((.two (.own (aT Val).raw 47 wH (List.zip r yw)) (.bJ (aR aM 51 hn yw (List.map (aT Val).sub r)))) : Chunk) b → w0.heap.size ≤ b)) := by
 refine aS (args := [va]) Tryz.func84 rfl Tryz.ntmps84 (Nat.le_of_ble_eq_true rfl) ?_
 have h := SH.init hM
 replace h := h.il 1 ha bR
 have u7 := ha.cO
 refine ai (ag (ae (aj (v := (.slice none 0 0)) rfl) (ah (aa (ai (ag (ae (au (v := va) rfl) ?_)))))))
 obtain ⟨y1, e2, hs⟩ := aQ hs
 have z3 := xS e2
 subst z3
 refine bA U2 rfl rfl (zN _ _ h.lt va a (h.je 1 rfl) _ e2) ?_
 rintro _ w ⟨k7, u4, rfl, g5, g6⟩
 refine ⟨_, rfl, ?_⟩
 replace h := h.jM 2 k7 g5 g6
 obtain ⟨V8, -, h⟩ := h.thaw (N := (aT Val)) (R := aM) (Es := 51) 2 3 4 rfl (by decide) (by decide) (by decide) rfl UR
 refine ae (aj (v := u4) rfl) (ah (aa (ai (ai (ag (ae (au (v := u4) rfl) (ae (qG (N := (aT Val)) gK rfl (h.dM 2 rfl) (h.iB 3 rfl)) (ae (au (v := (.int .i64 (0))) rfl) (ah (aa (aV ?_)))))))))))
 have aaa := (h.je 1 rfl).cO
 refine gT (σ := Nat × Int × List Value) (inl [3, 4, 9, 10, 11, 12, 13, 14, 15, 16, 17, 18, 19]) (fun ⟨k13, i14, Dh⟩ => [(9, (.int .i64 (i14)))]) (fun ⟨k13, i14, Dh⟩ w => SH w0 M BE w (hset [(2, .own (aT Val).raw 47 u4 (List.zip a Dh)), (3, .bJ (aR aM 51 (hge (k13)) Dh (List.map (aT Val).sub a))), (4, .bJ (CS aM (k13) Dh (List.map (aT Val).sub a)))]) ∧ i14 = (k13 : Int) ∧ upto (vU a) (vV a) i14 (((a.length : Int)).toNat - k13) () = some r) (fun ⟨k13, i14, Dh⟩ => ((a.length : Int)).toNat - k13) ⟨0, 0, V8⟩ ⟨rfl, trivial⟩ ?_ ?_
 exact ⟨h.cn _, rfl, hs⟩
 rintro ⟨k13, i14, Dh⟩ w dz ⟨h, hik, hs⟩
 refine ai (ag ?_)
 refine ae (dN rfl rfl) (ah (aa ?_))
 refine ai (iJ rfl (fun e18 => ?_) (fun e18 => ?_))
 refine aG (aa ?_)
 rw [vO (by have := of_decide_eq_true e18; omega)] at hs
 generalize aab : upto (vU a) (vV a) (i14 + 1) (((a.length : Int)).toNat - (k13 + 1)) = Kk at hs
 have e19r : jA (i14 + 1) := (by have := of_decide_eq_true e18; have := aaa; exact jA.mk (by omega) (by omega))
 refine ai (aV (ai (ag (ae (au (v := (.int .i64 (i14))) rfl) ?_))))
 obtain ⟨x20, e21, hs⟩ := aQ hs
 obtain ⟨u25, e260, r27⟩ := h.Rw 4 x20 rfl (h.iB 3 rfl) (IL hik (aJ e21).2) rfl
 have e26 := VZ hik e260
 replace h := h.cZ 5 r27
 obtain ⟨BH, q24, i22⟩ := h.wo 2 rfl gK rfl (aJ e21).1 (fA (aJ e21).2 e26)
 refine ae (i22 _ _ _ _ _ _ _ _ _ rfl rfl) ?_
 obtain ⟨Vk, m29, Z7⟩ := h.yN 2 rfl q24 (fA (aJ e21).2 e26)
 obtain ⟨rfl, -⟩ := Z7
 refine ae (oL (k := 0) m29 pE rfl rfl) (ae (aj (v := (.int .i64 (i14))) rfl) (ae (aj (v := u25) rfl) (ah (aa (ag (ae (au (v := u4) rfl) (ae (au (v := (.int .i64 (i14))) rfl) (ae (au (v := u25) rfl) ?_))))))))
 obtain ⟨y31, e32, hs⟩ := aQ hs
 have z33 := xS e32
 subst z33
 refine bA RH rfl rfl (uO _ _ h.lt u25 x20 (h.oZ 5 rfl) _ e32) ?_
 rintro _ w ⟨k37, u34, rfl, g35, g36⟩
 refine ⟨_, rfl, ?_⟩
 replace h := h.jM 6 k37 g35 g36
 obtain ⟨b39, q40, i38⟩ := h.wo 2 rfl gK rfl (aJ e21).1 (fA (aJ e21).2 e26)
 refine ae (i38 _ _ _ _ _ _ _ _ _ rfl rfl) ?_
 have o41 : (Value.oneCell' u34) = true := (h.dD 6 rfl).one
 refine IA (off := 0) (a' := (x20, u34)) h 2 rfl q40 rfl (fA (aJ e21).2 e26) pE rfl rfl o41 rfl (by rintro _ ⟨rfl, _⟩; exact ⟨rfl, o41⟩) fun w h => ?_
 rw [KU (aJ e21).2, Rt hik] at h
 replace h := h.KW 3 4 6 rfl rfl rfl (by decide) (by decide) (by decide) (IL hik (aJ e21).2) (IL hik e26) rfl
 generalize List.set Dh k13 u34 = SK at h
 refine ah (aA (aa (ag (ae (dw rfl rfl e19r) (ae (au (v := (.int .i64 ((i14 + 1)))) rfl) (ah (az ?_)))))))
 subst aab
 exact jV ⟨k13 + 1, i14 + 1, SK⟩ ⟨h.cn _, by omega, hs⟩ (by have := of_decide_eq_true e18; dsimp only; omega)
 rw [vP (by have := of_decide_eq_false e18; omega)] at hs
 replace h := h.Rs 3 rfl (by have := of_decide_eq_false e18; omega)
 replace h := h.fu 4
 refine df (aN (aN (bE (aa (ai (ag (ae (au (v := u4) rfl) (ae (aj (v := u4) rfl) (ah (aa (aK (cK (v := u4) Tryz.results84 rfl ?_))))))))))))
 replace h := h.pair 2 3 (by decide)
 obtain rfl := Option.some.inj hs
 obtain ⟨o1, o2, o3⟩ := h.qH 2 (C := (.two (.own (aT Val).raw 47 u4 (List.zip a Dh)) (.bJ (aR aM 51 hn Dh (List.map (aT Val).sub a))) : Chunk)) rfl ⟨trivial, trivial⟩
 exact ⟨o2, u4, Dh, rfl, o1, JN o3⟩
def zn (a : LX.State) (i13 : Int) (s : Unit) (aac : Unit → Option LX.State) : Option LX.State :=
  (idx a.frames i13).bind fun zm => (clone 16 zm.regs).bind fun SL => aac ()
def zo (a : LX.State) (y7 : List (List Val)) (s : Unit) : Option LX.State :=
  some (⟨a.frames, y7, a.status, a.aW⟩ : LX.State)
def Cf (a : LX.State) (y7 : List (List Val)) : Option LX.State :=
  upto (zn a) (zo a y7) 0 ((a.frames.length : Int)).toNat ()
def zq (a : LX.State) : Option LX.State :=
  (clone 48 a.frames).bind fun SN => (Bc a.cells).bind fun pU => Cf a pU
theorem Bd (w0 : World) (M : BS) (hM : ∀ b, M b → b < w0.heap.size) (a : LX.State) (Kl Gy : Value) (ha0 : gp iD w0 BE M Kl a.frames) (ha1 : gp (uY aM) w0 BE M Gy a.cells) (r : LX.State) (hs : zq a = some r) :
    Calls Tryz.prog 49 #[(.agg #[Kl, Gy, (.int .i64 (a.status)), (.int .i64 (a.aW))])] w0 (fun e w' => Grow w0 w' ∧ ∃ wH, ∃ zM, ∃ yw, ∃ Ef, e = .returned (.agg #[wH, zM, .int .i64 r.status, .int .i64 r.aW]) ∧ Chunk.holds w' M (Chunk.own' ((.two (.two (.two (.own aB.raw 49 wH (List.zip r.frames yw)) (.bJ (aR aM 51 hn yw (List.map aB.sub r.frames)))) (.own (aT Val).raw 47 zM (List.zip r.cells Ef))) (.bJ (aR aM 51 hn Ef (List.map (aT Val).sub r.cells)))) : Chunk)) ((.two (.two (.two (.own aB.raw 49 wH (List.zip r.frames yw)) (.bJ (aR aM 51 hn yw (List.map aB.sub r.frames)))) (.own (aT Val).raw 47 zM (List.zip r.cells Ef))) (.bJ (aR aM 51 hn Ef (List.map (aT Val).sub r.cells)))) : Chunk) ∧ (∀ b, Chunk.own' ((.two (.two (.two (.own aB.raw 49 wH (List.zip r.frames yw)) (.bJ (aR aM 51 hn yw (List.map aB.sub r.frames)))) (.own (aT Val).raw 47 zM (List.zip r.cells Ef))) (.bJ (aR aM 51 hn Ef (List.map (aT Val).sub r.cells)))) : Chunk) b → w0.heap.size ≤ b)) := by
 refine aS (args := [(.agg #[Kl, Gy, (.int .i64 (a.status)), (.int .i64 (a.aW))])]) Tryz.func49 rfl Tryz.ntmps49 (Nat.le_of_ble_eq_true rfl) ?_
 have h := SH.init hM
 replace h := h.il 1 ha0 bR
 replace h := h.il 2 ha1 (eT bR)
 refine ai (ag (rF (cs := [Kl, Gy, (.int .i64 (a.status)), (.int .i64 (a.aW))]) h 3 rfl rfl fun w b1 h => bT h 4 cu fun w b2 h => ah (aa (bV (σ := Value × List Value × Value × List Value × List (List Val)) (inl [5, 6, 7, 8, 9, 10, 11, 12]) (fun ⟨v3, YE, v5, IY, y7⟩ => []) (fun ⟨v3, YE, v5, IY, y7⟩ w => SH w0 M BE w (hset [(3, .blk b1 [v3, v5, (.int .i64 (a.status)), (.int .i64 (a.aW))]), (4, .blk b2 [(.slice none 0 0), (.slice none 0 0), (.int .i64 (0)), (.int .i64 (0))]), (29, .own aB.raw 49 v3 (List.zip a.frames YE)), (30, .bJ (aR aM 51 (hge (0)) YE (List.map aB.sub a.frames))), (31, .bJ (CS aM (0) YE (List.map aB.sub a.frames))), (65, .own (aT Val).raw 47 v5 (List.zip y7 IY)), (66, .bJ (aR aM 51 hn IY (List.map (aT Val).sub y7)))]) ∧ Cf a y7 = some r) ?_ ?_))))
 rintro ⟨v3, YE, v5, IY, y7⟩ w dz ⟨h, hs⟩
 refine ai (ai (ag (ae (ak eU rfl) (ae (aF h 3 rfl ji rfl rfl) (ae (qG (N := aB) dQ rfl (h.dM 29 rfl) (h.iB 30 rfl)) (ae (au (v := (.int .i64 (0))) rfl) (ah (aa (aV ?_)))))))))
 have aad := MI (h.dM 29 rfl) (h.iB 30 rfl)
 refine gT (σ := Nat × Int × List Value) (inl [3, 4, 16, 17, 18, 19, 20, 21, 22, 23, 24, 25, 26, 27, 28, 29]) (fun ⟨k12, i13, Eg⟩ => [(16, (.int .i64 (i13)))]) (fun ⟨k12, i13, Eg⟩ w => SH w0 M BE w (hset [(3, .blk b1 [v3, v5, (.int .i64 (a.status)), (.int .i64 (a.aW))]), (4, .blk b2 [(.slice none 0 0), (.slice none 0 0), (.int .i64 (0)), (.int .i64 (0))]), (29, .own aB.raw 49 v3 (List.zip a.frames Eg)), (30, .bJ (aR aM 51 (hge (k12)) Eg (List.map aB.sub a.frames))), (31, .bJ (CS aM (k12) Eg (List.map aB.sub a.frames))), (65, .own (aT Val).raw 47 v5 (List.zip y7 IY)), (66, .bJ (aR aM 51 hn IY (List.map (aT Val).sub y7)))]) ∧ i13 = (k12 : Int) ∧ upto (zn a) (zo a y7) i13 (((a.frames.length : Int)).toNat - k12) () = some r) (fun ⟨k12, i13, Eg⟩ => ((a.frames.length : Int)).toNat - k12) ⟨0, 0, YE⟩ ⟨rfl, trivial⟩ ?_ ?_
 exact ⟨h.cn _, rfl, hs⟩
 rintro ⟨k12, i13, Eg⟩ w dz ⟨h, hik, hs⟩
 refine ai (ag ?_)
 refine ae (dN rfl rfl) (ah (aa ?_))
 refine ai (iJ rfl (fun e17 => ?_) (fun e17 => ?_))
 refine aG (aa ?_)
 rw [vO (by have := of_decide_eq_true e17; omega)] at hs
 generalize aae : upto (zn a) (zo a y7) (i13 + 1) (((a.frames.length : Int)).toNat - (k12 + 1)) = aac at hs
 have e18r : jA (i13 + 1) := (by have := of_decide_eq_true e17; have := aad; exact jA.mk (by omega) (by omega))
 refine ai (aV (ai (ag (ae (au (v := (.int .i64 (i13))) rfl) ?_))))
 obtain ⟨zm, e20, hs⟩ := aQ hs
 obtain ⟨u24, e250, r26⟩ := h.Rw 31 zm.regs rfl (h.iB 30 rfl) (IL hik (aJ e20).2) rfl
 have e25 := VZ hik e250
 replace h := h.cZ 67 r26
 obtain ⟨b22, q23, i21⟩ := h.wo 29 rfl dQ rfl (aJ e20).1 (fA (aJ e20).2 e25)
 refine ae (i21 _ _ _ _ _ _ _ _ _ rfl rfl) ?_
 obtain ⟨cs27, m28, XK⟩ := h.yN 29 rfl q23 (fA (aJ e20).2 e25)
 obtain ⟨rfl, -⟩ := XK
 refine ae (oC (k := 0) (vs := [(.int .i64 (zm.proc)), (.int .i64 (zm.at_)), u24, (.int .i64 (zm.qY))]) m28 ma rfl rfl rfl (Nat.le_of_ble_eq_true rfl)) (bT h 68 ma fun w b30 h => ae (aj (v := (.int .i64 (i13))) rfl) (dm (vs := [(.int .i64 (zm.proc)), (.int .i64 (zm.at_)), u24, (.int .i64 (zm.qY))]) h 68 [(.int .i64 (zm.proc)), (.int .i64 (zm.at_)), u24, (.int .i64 (zm.qY))] rfl ma rfl rfl rfl rfl rfl (ax rfl (ax rfl (ax (h.gB 67 rfl).one (ax rfl aZ)))) fun w h => ah (aa (lY (L := (ob v3)) mixed h fun w h => bg 0 (aP.refl _ _) rfl ay (by kernel_rfl) (by kernel_rfl) (by kernel_rfl) (fun w hk => ak eU rfl) (bg 1 (aP.refl _ _) rfl ay (by kernel_rfl) (by kernel_rfl) (by kernel_rfl) (fun w hk => have h := h.qN 29 rfl hk; aF h 3 rfl ji rfl rfl) (bg 2 (aP.refl _ _) rfl ay (by kernel_rfl) (by kernel_rfl) (by kernel_rfl) (fun w hk => au (v := (.int .i64 (i13))) rfl) (bg 3 (aP.refl _ _) rfl ay (by kernel_rfl) (by kernel_rfl) (by kernel_rfl) (fun w hk => ak oO rfl) (bg 4 (aP.refl _ _) rfl ay (by kernel_rfl) (by kernel_rfl) (by kernel_rfl) (fun w hk => have h := h.qN 29 rfl hk; aF h 68 rfl pE rfl rfl) ?_))))))))
 obtain ⟨aaf, V9⟩ : ∃ x, x = w := ⟨_, rfl⟩
 have Km : aP (ob v3) aaf w := V9 ▸ aP.refl (ob v3) w
 refine sj V9.symm (bN 5 (by kernel_rfl) rfl ay ?_)
 obtain ⟨SL, Lp, hs⟩ := aQ hs
 have SQ := xS Lp
 subst SQ
 refine bA RH rfl rfl (uO _ _ h.lt u24 zm.regs (h.oZ 67 rfl) _ Lp) ?_
 rintro _ w ⟨Lr, Di, rfl, SS, Ls⟩
 refine ⟨_, rfl, ?_⟩
 replace h := h.jM 129 Lr SS Ls
 have YF : ∀ b, ob Di b → aaf.heap.size ≤ b := fun b hb => Nat.le_trans Km.size (Ls b hb)
 replace Km := Km.grow Lr
 refine ah (aX Km ?_)
 obtain ⟨aag, SV, SX⟩ := h.wo 29 rfl dQ rfl (aJ e20).1 (fA (aJ e20).2 e25)
 refine bg 6 Km rfl ay (by kernel_rfl) (by kernel_rfl) (by kernel_rfl) (fun w hk => SX _ _ _ _ _ _ _ _ _ rfl rfl) (bg 7 Km rfl ay (by kernel_rfl) (by kernel_rfl) (by kernel_rfl) (fun w hk => ak oO rfl) (bN 8 (by kernel_rfl) rfl ay ?_))
 have Lt : (Value.oneCell' Di) = true := (h.dD 129 rfl).one
 refine Q9 (a' := (zm, Di)) h 29 rfl SV rfl (fA (aJ e20).2 e25) pE rfl rfl Lt rfl (by rintro _ ⟨rfl, _⟩; exact ⟨rfl, Lt⟩) fun w h SY => ?_
 replace Km := Km.same SY
 rw [KU (aJ e20).2, Rt hik] at h
 replace h := h.KW 30 31 129 rfl rfl rfl (by decide) (by decide) (by decide) (IL hik (aJ e20).2) (IL hik e25) rfl
 generalize List.set Eg k12 Di = PV at h
 refine ah (aX Km (fU (by kernel_rfl) (aA (aa (ag (ae (dw rfl rfl e18r) (ae (au (v := (.int .i64 ((i13 + 1)))) rfl) (ah (az ?_)))))))))
 subst aae
 exact jV ⟨k12 + 1, i13 + 1, PV⟩ ⟨h.cn _, by omega, hs⟩ (by have := of_decide_eq_true e17; dsimp only; omega)
 rw [vP (by have := of_decide_eq_false e17; omega)] at hs
 replace h := h.Rs 30 rfl (by have := of_decide_eq_false e17; omega)
 replace h := h.fu 31
 refine df (aN (aN (bE (aa (ai (ag (ae (dS (vs := [v3, v5, (.int .i64 (a.status)), (.int .i64 (a.aW))]) h 3 rfl cu rfl rfl rfl) (dm (vs := [v3, v5, (.int .i64 (a.status)), (.int .i64 (a.aW))]) h 4 [v3, v5, (.int .i64 (a.status)), (.int .i64 (a.aW))] rfl cu rfl rfl rfl rfl rfl (ax (h.dD 29 rfl).one (ax (h.dD 65 rfl).one (ax rfl (ax rfl aZ)))) fun w h => ah (aa (aK (VY (vs := [v3, v5, (.int .i64 (a.status)), (.int .i64 (a.aW))]) Tryz.results49 rfl h 4 rfl cu rfl ?_)))))))))))
 replace h := h.pair 29 30 (by decide)
 replace h := h.pair 29 65 (by decide)
 replace h := h.pair 29 66 (by decide)
 obtain rfl := Option.some.inj hs
 obtain ⟨o1, o2, o3⟩ := h.qH 29 (C := (.two (.two (.two (.own aB.raw 49 v3 (List.zip a.frames Eg)) (.bJ (aR aM 51 hn Eg (List.map aB.sub a.frames)))) (.own (aT Val).raw 47 v5 (List.zip y7 IY))) (.bJ (aR aM 51 hn IY (List.map (aT Val).sub y7))) : Chunk)) rfl ⟨⟨⟨trivial, trivial⟩, trivial⟩, trivial⟩
 exact ⟨o2, v3, v5, Eg, IY, rfl, o1, JN o3⟩
 refine lY (L := (fun x => x = b1)) mixed h fun w h => bg 0 (aP.refl _ _) rfl ay (by kernel_rfl) (by kernel_rfl) (by kernel_rfl) (fun w hk => ak eU rfl) (bg 3 (aP.refl _ _) rfl ay (by kernel_rfl) (by kernel_rfl) (by kernel_rfl) (fun w hk => ak jZ rfl) ?_)
 obtain ⟨SN, yx, hs⟩ := aQ hs
 obtain ⟨pU, Gz, hs⟩ := aQ hs
 obtain ⟨Vn, Wd⟩ : ∃ x, x = w := ⟨_, rfl⟩
 have jU : aP (fun x => x = b1) Vn w := Wd ▸ aP.refl (fun x => x = b1) w
 refine sj Wd.symm (om 1 4 (by kernel_rfl) rfl ay rfl ay ?_ ?_)
 refine ae (aF h 3 rfl ji rfl rfl) (ah (aX jU (om 2 4 (by kernel_rfl) rfl ay rfl ay ?_ ?_)))
 have Aj := xS yx
 subst Aj
 refine bA MM rfl rfl (pR _ _ h.lt Kl a.frames (h.je 1 rfl) _ yx) ?_
 rintro _ w ⟨uP, l8, rfl, Ak, uQ⟩
 refine ⟨_, rfl, ?_⟩
 replace h := h.jM 213 uP Ak uQ
 have IZ : ∀ b, ob l8 b → Vn.heap.size ≤ b := fun b hb => Nat.le_trans jU.size (uQ b hb)
 replace jU := jU.grow uP
 obtain ⟨yz, -, h⟩ := h.thaw (N := aB) (R := aM) (Es := 51) 213 214 215 rfl (by decide) (by decide) (by decide) rfl DW
 refine ah (aX jU (bN 4 (by kernel_rfl) rfl ay (ae (aF h 3 rfl pz rfl rfl) (ah (aX jU (bg 6 jU rfl ay (by kernel_rfl) (by kernel_rfl) (by kernel_rfl) (fun w hk => ak eU rfl) (bN 5 (by kernel_rfl) rfl ay (bA MN rfl rfl (Ai _ _ h.lt Gy a.cells (h.je 2 rfl) _ Gz) ?_))))))))
 rintro _ w ⟨uR, pV, mO, rfl, Al, Am⟩
 refine ⟨_, rfl, ?_⟩
 replace h := h.MH 249 (C := (.two (.own (aT Val).raw 47 pV (List.zip pU mO)) (.bJ (aR aM 51 hn mO (List.map (aT Val).sub pU))) : Chunk)) uR ⟨trivial, trivial⟩ Al Am
 replace h := h.bU 249 250 (by decide) rfl rfl
 replace jU := jU.grow uR
 refine ah (aX jU (bN 7 (by kernel_rfl) rfl ay (ry h 3 [l8, Gy, (.int .i64 (a.status)), (.int .i64 (a.aW))] rfl ji rfl rfl rfl rfl (h.dD 213 rfl).one fun w h Ao => ?_)))
 replace jU := jU.same Ao
 refine ah (aX jU (bg 8 jU rfl ay (by kernel_rfl) (by kernel_rfl) (by kernel_rfl) (fun w hk => ak jZ rfl) (bN 9 (by kernel_rfl) rfl ay (ry h 3 [l8, pV, (.int .i64 (a.status)), (.int .i64 (a.aW))] rfl pz rfl rfl rfl rfl (h.dD 249 rfl).one fun w h Ap => ?_))))
 replace jU := jU.same Ap
 refine ah (aX jU (fU (by kernel_rfl) (az ?_)))
 replace h := (h.fu 29).moveC 213 29 rfl rfl (by decide)
 replace h := (h.fu 30).moveC 214 30 rfl rfl (by decide)
 replace h := (h.fu 31).moveC 215 31 rfl rfl (by decide)
 replace h := (h.fu 65).moveC 249 65 rfl rfl (by decide)
 replace h := (h.fu 66).moveC 250 66 rfl rfl (by decide)
 exact bQ (l8, yz, pV, mO, pU) ⟨h.cn _, hs⟩
 refine ae (aF h 3 rfl pz rfl rfl) (ah (aX jU (bN 2 (by kernel_rfl) rfl ay ?_)))
 have Aj := xS yx
 subst Aj
 refine bA MM rfl rfl (pR _ _ h.lt Kl a.frames (h.je 1 rfl) _ yx) ?_
 rintro _ w ⟨uP, l8, rfl, Ak, uQ⟩
 refine ⟨_, rfl, ?_⟩
 replace h := h.jM 213 uP Ak uQ
 have IZ : ∀ b, ob l8 b → Vn.heap.size ≤ b := fun b hb => Nat.le_trans jU.size (uQ b hb)
 replace jU := jU.grow uP
 obtain ⟨yz, -, h⟩ := h.thaw (N := aB) (R := aM) (Es := 51) 213 214 215 rfl (by decide) (by decide) (by decide) rfl DW
 refine ah (aX jU (bg 6 jU rfl ay (by kernel_rfl) (by kernel_rfl) (by kernel_rfl) (fun w hk => ak eU rfl) (bN 5 (by kernel_rfl) rfl ay (bA MN rfl rfl (Ai _ _ h.lt Gy a.cells (h.je 2 rfl) _ Gz) ?_))))
 rintro _ w ⟨uR, pV, mO, rfl, Al, Am⟩
 refine ⟨_, rfl, ?_⟩
 replace h := h.MH 249 (C := (.two (.own (aT Val).raw 47 pV (List.zip pU mO)) (.bJ (aR aM 51 hn mO (List.map (aT Val).sub pU))) : Chunk)) uR ⟨trivial, trivial⟩ Al Am
 replace h := h.bU 249 250 (by decide) rfl rfl
 replace jU := jU.grow uR
 refine ah (aX jU (bN 7 (by kernel_rfl) rfl ay (ry h 3 [l8, Gy, (.int .i64 (a.status)), (.int .i64 (a.aW))] rfl ji rfl rfl rfl rfl (h.dD 213 rfl).one fun w h Ao => ?_)))
 replace jU := jU.same Ao
 refine ah (aX jU (bg 8 jU rfl ay (by kernel_rfl) (by kernel_rfl) (by kernel_rfl) (fun w hk => ak jZ rfl) (bN 9 (by kernel_rfl) rfl ay (ry h 3 [l8, pV, (.int .i64 (a.status)), (.int .i64 (a.aW))] rfl pz rfl rfl rfl rfl (h.dD 249 rfl).one fun w h Ap => ?_))))
 replace jU := jU.same Ap
 refine ah (aX jU (fU (by kernel_rfl) (az ?_)))
 replace h := (h.fu 29).moveC 213 29 rfl rfl (by decide)
 replace h := (h.fu 30).moveC 214 30 rfl rfl (by decide)
 replace h := (h.fu 31).moveC 215 31 rfl rfl (by decide)
 replace h := (h.fu 65).moveC 249 65 rfl rfl (by decide)
 replace h := (h.fu 66).moveC 250 66 rfl rfl (by decide)
 exact bQ (l8, yz, pV, mO, pU) ⟨h.cn _, hs⟩
 refine ae (aF h 3 rfl pz rfl rfl) (ah (aX jU (bN 1 (by kernel_rfl) rfl ay (ae (aF h 3 rfl ji rfl rfl) (ah (aX jU (bN 2 (by kernel_rfl) rfl ay ?_)))))))
 have Aj := xS yx
 subst Aj
 refine bA MM rfl rfl (pR _ _ h.lt Kl a.frames (h.je 1 rfl) _ yx) ?_
 rintro _ w ⟨uP, l8, rfl, Ak, uQ⟩
 refine ⟨_, rfl, ?_⟩
 replace h := h.jM 213 uP Ak uQ
 have IZ : ∀ b, ob l8 b → Vn.heap.size ≤ b := fun b hb => Nat.le_trans jU.size (uQ b hb)
 replace jU := jU.grow uP
 obtain ⟨yz, -, h⟩ := h.thaw (N := aB) (R := aM) (Es := 51) 213 214 215 rfl (by decide) (by decide) (by decide) rfl DW
 refine ah (aX jU (bg 6 jU rfl ay (by kernel_rfl) (by kernel_rfl) (by kernel_rfl) (fun w hk => ak eU rfl) (bN 5 (by kernel_rfl) rfl ay (bA MN rfl rfl (Ai _ _ h.lt Gy a.cells (h.je 2 rfl) _ Gz) ?_))))
 rintro _ w ⟨uR, pV, mO, rfl, Al, Am⟩
 refine ⟨_, rfl, ?_⟩
 replace h := h.MH 249 (C := (.two (.own (aT Val).raw 47 pV (List.zip pU mO)) (.bJ (aR aM 51 hn mO (List.map (aT Val).sub pU))) : Chunk)) uR ⟨trivial, trivial⟩ Al Am
 replace h := h.bU 249 250 (by decide) rfl rfl
 replace jU := jU.grow uR
 refine ah (aX jU (bN 7 (by kernel_rfl) rfl ay (ry h 3 [l8, Gy, (.int .i64 (a.status)), (.int .i64 (a.aW))] rfl ji rfl rfl rfl rfl (h.dD 213 rfl).one fun w h Ao => ?_)))
 replace jU := jU.same Ao
 refine ah (aX jU (bg 8 jU rfl ay (by kernel_rfl) (by kernel_rfl) (by kernel_rfl) (fun w hk => ak jZ rfl) (bN 9 (by kernel_rfl) rfl ay (ry h 3 [l8, pV, (.int .i64 (a.status)), (.int .i64 (a.aW))] rfl pz rfl rfl rfl rfl (h.dD 249 rfl).one fun w h Ap => ?_))))
 replace jU := jU.same Ap
 refine ah (aX jU (fU (by kernel_rfl) (az ?_)))
 replace h := (h.fu 29).moveC 213 29 rfl rfl (by decide)
 replace h := (h.fu 30).moveC 214 30 rfl rfl (by decide)
 replace h := (h.fu 31).moveC 215 31 rfl rfl (by decide)
 replace h := (h.fu 65).moveC 249 65 rfl rfl (by decide)
 replace h := (h.fu 66).moveC 250 66 rfl rfl (by decide)
 exact bQ (l8, yz, pV, mO, pU) ⟨h.cn _, hs⟩
def yA (x8 : Int) : Option (Val × Bool) :=
  some ((⟨1, x8⟩ : Val), (decide ((-1000000000 : Int) ≤ x8) && decide ((x8 : Int) ≤ 1000000000)))
def Lu (a : Int) (b : Val) (c : Val) : Option (Val × Bool) :=
  bif decide ((a : Int) = 5) then bif (decide (b.kind = c.kind) && decide (b.n = c.n)) then some ((⟨1, 1⟩ : Val), true) else some ((⟨1, 0⟩ : Val), true) else bif (decide ((b.kind : Int) ≠ 1) || decide ((c.kind : Int) ≠ 1)) then some ((⟨0, 0⟩ : Val), false) else bif decide ((a : Int) = 1) then gz (jA (b.n + c.n)) (yA (b.n + c.n)) else bif decide ((a : Int) = 2) then gz (jA (b.n - c.n)) (yA (b.n - c.n)) else bif decide ((a : Int) = 3) then gz (jA (b.n * c.n)) (yA (b.n * c.n)) else bif decide ((a : Int) = 4) then bif decide ((b.n : Int) < c.n) then some ((⟨1, 1⟩ : Val), true) else some ((⟨1, 0⟩ : Val), true) else yA 0
end
end Go.Proofs.YtfclkapelkhlpaaGreatDoor
