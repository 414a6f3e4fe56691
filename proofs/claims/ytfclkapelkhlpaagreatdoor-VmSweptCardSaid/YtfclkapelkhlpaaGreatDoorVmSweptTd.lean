/-
  What the law VmSwept needs of our own library and of the walks, no more.
-/
import Derived.Test.YtfclkapelkhlpaaGreatDoorProg
import Derived.Test.YtfclkapelkhlpaaGreatDoorVmSweptTc
set_option linter.unusedSimpArgs false
set_option linter.unusedVariables false
set_option maxRecDepth 10000
namespace Go.Proofs.YtfclkapelkhlpaaGreatDoor
open Go Go.Proofs Go.LX
noncomputable section
theorem xu (N : Nat) (w0 : World) (M : BS) (hM : ∀ b, M b → b < w0.heap.size) (hT : uj Tryz.prog 4 w0) (a : Str) (r : List fB × Int) (hs : ky N a = some r) :
    Calls Tryz.prog 77 #[(bz a)] w0 (fun e w' => Grow w0 w' ∧ ∃ u0, e = .returned (.tuple #[u0, .int .i64 r.2]) ∧ ek iY 113 w' M u0 r.1 ∧ (∀ b, ob u0 b → w0.heap.size ≤ b)) := by
 refine aS (args := [(bz a)]) Tryz.func77 rfl Tryz.ntmps77 (Nat.le_of_ble_eq_true rfl) ?_
 have h := SH.init hM
 refine ai (ag (ae (aj (v := (.slice none 0 0)) rfl) (ae (aj (v := (.int .i64 (0))) rfl) (ah (aa (ai (ag (ae (au (v := (bz a)) rfl) ?_))))))))
 obtain ⟨y1, e2, hs⟩ := aQ hs
 refine bA Uk rfl rfl (E9 _ _ h.lt (hT.go h.keep) a [32] _ e2) ?_
 rintro _ w ⟨k5, u3, rfl, g4⟩
 refine ⟨_, rfl, ?_⟩
 replace h := h.Ie 1 k5 g4
 refine pG h 2 mE fun w b6 h => fJ h 2 [u3] rfl mE rfl rfl rfl rfl (h.iq 1 rfl).one fun w h => ah (aa (ai (ag (pG h 3 xO fun w b7 h => ah (aa (ai (ai (ag (ae (aD h 2 rfl mE rfl rfl) (ae (bW eQ rfl (h.mH 1 rfl)) (ae (au (v := (.int .i64 (0))) rfl) (ah (aa (aU ?_))))))))))))))
 replace h := h.yF (R := iY) (E := 113) 7
 refine gP (σ := Nat × Int × Value × List fB) (inl [6, 7, 8, 9, 10, 11, 24, 25, 26, 27, 28, 29, 30, 31, 32, 33, 34, 35, 36, 37, 38, 39, 40, 41, 42, 43, 44, 45, 46, 47, 48, 49, 50, 51, 52, 53, 54, 55, 56, 57, 58, 59, 60, 61, 62]) (fun ⟨k16, i17, v14, vI⟩ => [(24, (.int .i64 (i17)))]) (fun ⟨k16, i17, v14, vI⟩ w => SH w0 M BE w (hset [(1, .rd nJ u3 y1), (2, .blk b6 [u3]), (3, .blk b7 [v14]), (7, .own iY 113 v14 vI)]) ∧ i17 = (k16 : Int) ∧ dU (jo y1) (iG N y1 a) i17 (y1.drop k16) vI = some r) (fun ⟨k16, i17, v14, vI⟩ => y1.length - k16) ⟨0, 0, (.slice none 0 0), []⟩ ⟨rfl, trivial⟩ ?_ ?_
 exact ⟨h.cn _, rfl, hs⟩
 rintro ⟨k16, i17, v14, vI⟩ w dD ⟨h, hik, hs⟩
 refine ai (ag ?_)
 refine ae (dS rfl rfl) (ah (aa ?_))
 refine ai (iJ rfl (fun e21 => ?_) (fun e21 => ?_))
 refine aG (aa ?_)
 obtain ⟨yB, e22a, e22b⟩ := gy (hik ▸ e21)
 rw [e22b, gU] at hs
 generalize Zu : dU (jo y1) (iG N y1 a) (i17 + 1) (y1.drop (k16 + 1)) = HZ at hs
 have Zv := gD ((h.mH 1 rfl)).cB hik e21
 refine cz (σ := Value × List fB) (inl [6, 7, 8, 9, 10, 11, 26, 27, 28, 29, 30, 31, 32, 33, 34, 35, 36, 37, 38, 39, 40, 41, 42, 43, 44, 45, 46, 47, 48, 49, 50, 51, 52, 53, 54, 55, 56, 57, 58, 59, 60, 61]) (fun ⟨v23, y24⟩ => []) (fun ⟨v23, y24⟩ w => SH w0 M BE w (hset [(1, .rd nJ u3 y1), (2, .blk b6 [u3]), (3, .blk b7 [v23]), (7, .own iY 113 v23 y24)]) ∧ lC HZ y24 = some r) ?_ ?_
 rintro ⟨v23, y24⟩ w dD ⟨h, hs⟩
 refine ag (ae (dH rfl rfl Zv) (ae (au (v := (.int .i64 ((i17 + 1)))) rfl) (ah (az ?_))))
 subst Zu
 exact jN ⟨k16 + 1, i17 + 1, v23, y24⟩ ⟨h.cn _, by omega, hs⟩ (by have := of_decide_eq_true e21; dsimp only; omega)
 refine aU (ai (ag (ae (au (v := (.int .i64 (i17))) rfl) ?_)))
 obtain ⟨WM, o27, UG, h, Xj, i25⟩ := h.Dm 1 8 rfl eQ rfl (iU hik) (gB hik e22a)
 obtain rfl := Xj
 refine ae (i25 _ _ _ _ _ _ _ _ _ rfl rfl) (ae (eO (k := 0) h 8 rfl xP rfl rfl) (ae (aj (v := (.int .i64 (i17))) rfl) (ae (aj (v := (bz yB)) rfl) (ah (aa (cz (σ := Bool) (inl [29, 30, 31, 32, 33, 34, 35, 36, 37]) (fun x30 => [(37, (.bool (x30)))]) (fun x30 w => SH w0 M BE w (hset [(1, .rd nJ u3 y1), (2, .blk b6 [u3]), (3, .blk b7 [v14]), (7, .own iY 113 v14 vI)]) ∧ lD y1 i17 vI HZ x30 = some r) ?_ ?_))))))
 rintro x30 w dD ⟨h, hs⟩
 refine aN hs rfl (fun c31 hs => ?_) (fun c31 hs => ?_)
 refine ai (ag (ae (aD h 2 rfl mE rfl rfl) (ae (au (v := (.int .i64 (i17))) rfl) (ae (dH rfl rfl Zv) ?_))))
 obtain ⟨x32, e33, hs⟩ := aQ hs
 obtain ⟨b35, o36, cs37, h, r38, i34⟩ := h.Dm 1 9 rfl eQ rfl (aI e33).1 (aI e33).2
 obtain rfl := r38
 refine ae (i34 _ _ _ _ _ _ _ _ _ rfl rfl) (ae (eO (k := 0) h 9 rfl xP rfl rfl) ?_)
 obtain ⟨y39, e40, hs⟩ := aQ hs
 refine bA CK rfl rfl (pM _ _ h.lt (hT.go h.keep) x32 _ e40) ?_
 rintro _ w ⟨k43, Xk, rfl, g42⟩
 refine ⟨_, rfl, ?_⟩
 replace h := h.grow k43
 refine ae (au (v := (.tuple #[(.int .i64 (y39.1)), Xk])) rfl) (ae (bF rfl rfl) (ae (bF rfl rfl) (ae (aj (v := (.int .i64 (y39.1))) rfl) (ae (aj (v := Xk) rfl) (ah (aa (ai (ag (ae (aD h 2 rfl mE rfl rfl) (ae (au (v := (.int .i64 (i17))) rfl) ?_))))))))))
 obtain ⟨a44, hs⟩ := bM hs
 refine ae (dH rfl rfl a44) ?_
 obtain ⟨x45, e46, hs⟩ := aQ hs
 obtain ⟨b48, o49, cs50, h, r51, i47⟩ := h.Dm 1 10 rfl eQ rfl (aI e46).1 (aI e46).2
 obtain rfl := r51
 refine ae (i47 _ _ _ _ _ _ _ _ _ rfl rfl) (ae (eO (k := 0) h 10 rfl xP rfl rfl) ?_)
 obtain ⟨AL, e53, hs⟩ := aQ hs
 refine bA CK rfl rfl (pM _ _ h.lt (hT.go h.keep) x45 _ e53) ?_
 rintro _ w ⟨k56, R6, rfl, g55⟩
 refine ⟨_, rfl, ?_⟩
 replace h := h.grow k56
 refine ae (au (v := (.tuple #[(.int .i64 (AL.1)), R6])) rfl) (ae (bF rfl rfl) (ae (bF rfl rfl) (ae (aj (v := (.int .i64 (AL.1))) rfl) (ae (aj (v := R6) rfl) (ah (aa (ag (ae (aD h 3 rfl xO rfl rfl) (ae (au (v := (.int .i64 (y39.1))) rfl) (ae (au (v := (.int .i64 (AL.1))) rfl) (ae (dV (pv := [(0, (.int .i64 (y39.1))), (1, (.int .i64 (AL.1)))]) (out := [(.int .i64 (y39.1)), (.int .i64 (AL.1)), (.slice none 0 0)]) Pf rfl ⟨0, 1, [(.int .i64 (y39.1))], rfl, rfl, rfl, Nat.le_of_ble_eq_true rfl, ⟨1, 1, [(.int .i64 (AL.1))], rfl, rfl, rfl, Nat.le_of_ble_eq_true rfl, rfl⟩⟩) (tJ (R := iY) (vs := [(.agg #[(.int .i64 (y39.1)), (.int .i64 (AL.1)), (.slice none 0 0)])]) (xs := [(⟨y39.1, AL.1, []⟩ : fB)]) h 11 KL rfl rfl rfl ⟨⟨_, rfl, gL.nil⟩, trivial⟩ rfl fun w u57 h => ?_))))))))))))
 obtain ⟨a58, hs⟩ := bM hs
 refine mO (R := iY) (m := [(⟨y39.1, AL.1, []⟩ : fB)]) h 7 rfl (h.eF 11 rfl) KL rfl rfl rfl a58.1 a58.2 fun w u59 h => fJ h 3 [u59] rfl xO rfl rfl rfl rfl (h.dJ 7 rfl).one fun w h => ah (aA (az ?_))
 exact bU (u59, (vI ++ [(⟨y39.1, AL.1, []⟩ : fB)])) ⟨h.cn _, hs⟩
 refine aG (aA (az ?_))
 exact bU (v14, vI) ⟨h.cn _, hs⟩
 refine ag (ae (au (v := (bz yB)) rfl) (ae (Du rfl rfl) (ae (au (v := (.bool (decide ((yB : Str) = [102, 117, 110])))) rfl) (iQ (b := decide ((yB : Str) = [102, 117, 110])) hs (fun Pt hs => ?_) (fun Pt hs => ?_)))))
 refine dK rfl (congrArg Value.bool Pt) (ae (au (v := (.int .i64 (i17))) rfl) (dK rfl (congrArg Value.bool Pt) ?_))
 obtain ⟨a61, hs⟩ := bM hs
 refine ae (dH rfl rfl a61) (dK rfl (congrArg Value.bool Pt) (ae (aD h 2 rfl mE rfl rfl) (dK rfl (congrArg Value.bool Pt) (ae (bW eQ rfl (h.mH 1 rfl)) (dK rfl (congrArg Value.bool Pt) (ae (dS rfl rfl) (ae (cK (b := true) (v := (.bool (decide (((i17 + 2) : Int) < (y1.length : Int))))) (congrArg Value.bool Pt) rfl) (ah (az ?_)))))))))
 exact bU (decide (((i17 + 2) : Int) < (y1.length : Int))) ⟨h.cn _, hs⟩
 refine bH (b' := false) rfl (congrArg Value.bool Pt) rfl (bH (b' := false) rfl (congrArg Value.bool Pt) rfl (bH (b' := false) rfl (congrArg Value.bool Pt) rfl (bH (b' := false) rfl (congrArg Value.bool Pt) rfl (bH (b' := false) rfl (congrArg Value.bool Pt) rfl (ae (cK (b := false) (v := (.bool (false))) (congrArg Value.bool Pt) rfl) (ah (az ?_)))))))
 exact bU false ⟨h.cn _, hs⟩
 rw [gz (hik ▸ e21), kI] at hs
 refine dh (aO (aO (bE (aa (ai (ai (ag (ae (aD h 3 rfl xO rfl rfl) (ae (bW iM rfl (h.eF 7 rfl)) (ae (bJ rfl rfl) (ae (au (v := (.bool (decide (((vI.length : Int) : Int) = 0)))) rfl) (aF rfl rfl (fun q => aD h 3 rfl xO rfl rfl) (aF rfl rfl (fun q => bW iM (dA q) (h.eF 7 rfl)) (aF rfl rfl (fun q => j6 (dA q) rfl) (ae (ic rfl rfl ma) (ah (aa (aN hs rfl (fun c62 hs => ?_) (fun c62 hs => ?_)))))))))))))))))))
 refine ai (ag (ae (aj (v := (.slice none 0 0)) rfl) (ae (aj (v := (.int .i64 (1))) rfl) (ah (aa (aK (aC (Dq (v1 := (.slice none 0 0)) (v2 := (.int .i64 (1))) Tryz.results77 rfl rfl ?_))))))))
 obtain rfl := Option.some.inj hs
 exact ⟨h.grown, _, rfl, ek.nil, l8⟩
 refine aG (aa (ai (ai (ag (ae (aD h 3 rfl xO rfl rfl) (ae (bW iM rfl (h.eF 7 rfl)) (ae (au (v := (.int .i64 (0))) rfl) (ah (aa (aU ?_))))))))))
 have Zw := (h.eF 7 rfl).cB
 refine gP (σ := Nat × Int) (inl [2, 3, 13, 73, 74, 75, 76, 77, 78, 79, 80, 81]) (fun ⟨TL, i64⟩ => [(73, (.int .i64 (i64)))]) (fun ⟨TL, i64⟩ w => SH w0 M BE w (hset [(1, .rd nJ u3 y1), (2, .blk b6 [u3]), (3, .blk b7 [v14]), (7, .own iY 113 v14 vI)]) ∧ i64 = (TL : Int) ∧ upto (jm vI) (iF N y1 a vI) i64 (((vI.length : Int)).toNat - TL) () = some r) (fun ⟨TL, i64⟩ => ((vI.length : Int)).toNat - TL) ⟨0, 0⟩ ⟨rfl, trivial⟩ ?_ ?_
 exact ⟨h.cn _, rfl, hs⟩
 rintro ⟨TL, i64⟩ w dD ⟨h, hik, hs⟩
 refine ai (ag ?_)
 refine ae (dS rfl rfl) (ah (aa ?_))
 refine ai (iJ rfl (fun Ux => ?_) (fun Ux => ?_))
 refine aG (aa ?_)
 rw [tT (by have := of_decide_eq_true Ux; omega)] at hs
 generalize Zx : upto (jm vI) (iF N y1 a vI) (i64 + 1) (((vI.length : Int)).toNat - (TL + 1)) = Zt at hs
 have e69r : jO (i64 + 1) := (by have := of_decide_eq_true Ux; have := Zw; exact jO.mk (by omega) (by omega))
 refine ai (aU (ai (ag ?_)))
 obtain ⟨UF, R7, hs⟩ := aQ hs
 obtain ⟨b73, q74, i72⟩ := h.uR 7 rfl iM rfl (aI R7).1 (aI R7).2
 refine ae (i72 _ _ _ _ _ _ _ _ _ rfl rfl) ?_
 obtain ⟨cs75, Xl, r77⟩ := h.xc 7 rfl q74 (aI R7).2
 obtain ⟨Ki, rfl, g79⟩ := ru r77
 replace h := h.di 12 g79
 refine ae (mM (k := 0) (vs := [(.int .i64 (UF.params)), (.int .i64 (UF.locals)), Ki]) Xl lN rfl rfl rfl (Nat.le_of_ble_eq_true rfl)) (bY h 13 lN fun w b80 h => dB (vs := [(.int .i64 (UF.params)), (.int .i64 (UF.locals)), Ki]) h 13 [(.int .i64 (UF.params)), (.int .i64 (UF.locals)), Ki] rfl lN rfl rfl rfl rfl rfl (ay rfl (ay rfl (ay (h.iq 12 rfl).one bg))) fun w h => ah (aa (ai (ag (ae (ak um rfl) (ae (aD h 13 rfl aZ rfl rfl) (bA xh rfl rfl (gT _ _ h.lt UF.params 0 3 _ rfl) ?_)))))))
 rintro _ w ⟨k81, rfl⟩
 refine ⟨_, rfl, ?_⟩
 replace h := h.grow k81
 refine ae (gZ rfl) (ah (aa (aN hs rfl (fun c82 hs => ?_) (fun c82 hs => ?_))))
 refine ai (ag (ae (aj (v := (.slice none 0 0)) rfl) (ae (aj (v := (.int .i64 (1))) rfl) (ah (aa (aK (aH (aC (aC (aH (aC (Dq (v1 := (.slice none 0 0)) (v2 := (.int .i64 (1))) Tryz.results77 rfl rfl ?_))))))))))))
 obtain rfl := Option.some.inj hs
 exact ⟨h.grown, _, rfl, ek.nil, l8⟩
 refine aG (aA (aa (ag (ae (dH rfl rfl e69r) (ae (au (v := (.int .i64 ((i64 + 1)))) rfl) (ah (az ?_)))))))
 subst Zx
 exact jN ⟨TL + 1, i64 + 1⟩ ⟨h.cn _, by omega, hs⟩ (by have := of_decide_eq_true Ux; dsimp only; omega)
 rw [tV (by have := of_decide_eq_false Ux; omega)] at hs
 refine dh (aO (aO (bE (aa (ai (ag (pG h 14 aZ fun w ER h => fJ h 14 [(.int .i64 (0))] rfl aZ rfl rfl rfl rfl rfl fun w h => ah (aa (ai (ag (pG h 15 wL fun w yC h => fJ h 15 [(.bool (true))] rfl wL rfl rfl rfl rfl rfl fun w h => ah (aa (ai (ag (ae (qW (c1 := []) (c2 := [(.pointer (some ⟨ER, 0, none⟩)), (.pointer (some ⟨b6, 0, none⟩)), (.pointer (some ⟨yC, 0, none⟩))]) rfl rfl) (pG h 16 yP fun w F7 h => fJ h 16 [(.func (.func 103) #[] #[(.pointer (some ⟨ER, 0, none⟩)), (.pointer (some ⟨b6, 0, none⟩)), (.pointer (some ⟨yC, 0, none⟩))])] rfl yP rfl rfl rfl rfl rfl fun w h => ah (aa ?_)))))))))))))))))
 refine ai (ag (ae (qW (c1 := []) (c2 := [(.pointer (some ⟨yC, 0, none⟩)), (.pointer (some ⟨F7, 0, none⟩)), (.pointer (some ⟨b7, 0, none⟩))]) rfl rfl) (pG h 17 JK fun w Pv h => fJ h 17 [(.func (.func 104) #[] #[(.pointer (some ⟨yC, 0, none⟩)), (.pointer (some ⟨F7, 0, none⟩)), (.pointer (some ⟨b7, 0, none⟩))])] rfl JK rfl rfl rfl rfl rfl fun w h => ah (aa (ai (ag (pG h 18 F3 fun w Oq h => ah (aa (ai (ag (ae (qW (c1 := []) (c2 := [(.pointer (some ⟨F7, 0, none⟩)), (.pointer (some ⟨yC, 0, none⟩)), (.pointer (some ⟨Pv, 0, none⟩)), (.pointer (some ⟨Oq, 0, none⟩))]) rfl rfl) (fJ h 18 [(.func (.func 109) #[] #[(.pointer (some ⟨F7, 0, none⟩)), (.pointer (some ⟨yC, 0, none⟩)), (.pointer (some ⟨Pv, 0, none⟩)), (.pointer (some ⟨Oq, 0, none⟩))])] rfl F3 rfl rfl rfl rfl rfl fun w h => ah (aa (ai (ai (ag (ae (aD h 3 rfl xO rfl rfl) (ae (bW iM rfl (h.eF 7 rfl)) (ae (au (v := (.int .i64 (0))) rfl) ?_)))))))))))))))))))
 refine ah (aa (aU ?_))
 have Xm := (h.eF 7 rfl).cB
 refine gP (σ := Nat × Int × List fB × Int × Bool) (inl [19, 87, 88, 89, 90, 91, 92, 93, 94, 95, 96, 97, 98, 99, 100, 101, 102, 103]) (fun ⟨K5, i101, qI, y98, y99⟩ => [(87, (.int .i64 (i101)))]) (fun ⟨K5, i101, qI, y98, y99⟩ w => SH w0 M BE w (hset [(1, .rd nJ u3 y1), (2, .blk b6 [u3]), (3, .blk b7 [v14]), (7, .own iY 113 v14 qI), (14, .blk ER [(.int .i64 (y98))]), (15, .blk yC [(.bool (y99))]), (16, .blk F7 [(.func (.func 103) #[] #[(.pointer (some ⟨ER, 0, none⟩)), (.pointer (some ⟨b6, 0, none⟩)), (.pointer (some ⟨yC, 0, none⟩))])]), (17, .blk Pv [(.func (.func 104) #[] #[(.pointer (some ⟨yC, 0, none⟩)), (.pointer (some ⟨F7, 0, none⟩)), (.pointer (some ⟨b7, 0, none⟩))])]), (18, .blk Oq [(.func (.func 109) #[] #[(.pointer (some ⟨F7, 0, none⟩)), (.pointer (some ⟨yC, 0, none⟩)), (.pointer (some ⟨Pv, 0, none⟩)), (.pointer (some ⟨Oq, 0, none⟩))])])]) ∧ i101 = (K5 : Int) ∧ upto (iE N y1) (jl N y1 a) i101 (((vI.length : Int)).toNat - K5) (qI, y98, y99) = some r) (fun ⟨K5, i101, qI, y98, y99⟩ => ((vI.length : Int)).toNat - K5) ⟨0, 0, vI, 0, true⟩ ⟨rfl, trivial⟩ ?_ ?_
 exact ⟨h.cn _, rfl, hs⟩
 rintro ⟨K5, i101, qI, y98, y99⟩ w dD ⟨h, hik, hs⟩
 refine ai (ag ?_)
 refine ae (dS rfl rfl) (ah (aa ?_))
 refine ai (iJ rfl (fun JU => ?_) (fun JU => ?_))
 refine aG (aa ?_)
 rw [tT (by have := of_decide_eq_true JU; omega)] at hs
 generalize Xn : upto (iE N y1) (jl N y1 a) (i101 + 1) (((vI.length : Int)).toNat - (K5 + 1)) = kH at hs
 have Zy : jO (i101 + 1) := (by have := of_decide_eq_true JU; have := Xm; exact jO.mk (by omega) (by omega))
 refine ai (aU (ai (ag (ae (au (v := (.int .i64 (i101))) rfl) (ae (aj (v := (.int .i64 (i101))) rfl) (ah (aa (cz (σ := Int × Bool) (inl [90, 91, 92]) (fun ⟨oI, JW⟩ => []) (fun ⟨oI, JW⟩ w => SH w0 M BE w (hset [(1, .rd nJ u3 y1), (2, .blk b6 [u3]), (3, .blk b7 [v14]), (7, .own iY 113 v14 qI), (14, .blk ER [(.int .i64 (oI))]), (15, .blk yC [(.bool (JW))]), (16, .blk F7 [(.func (.func 103) #[] #[(.pointer (some ⟨ER, 0, none⟩)), (.pointer (some ⟨b6, 0, none⟩)), (.pointer (some ⟨yC, 0, none⟩))])]), (17, .blk Pv [(.func (.func 104) #[] #[(.pointer (some ⟨yC, 0, none⟩)), (.pointer (some ⟨F7, 0, none⟩)), (.pointer (some ⟨b7, 0, none⟩))])]), (18, .blk Oq [(.func (.func 109) #[] #[(.pointer (some ⟨F7, 0, none⟩)), (.pointer (some ⟨yC, 0, none⟩)), (.pointer (some ⟨Pv, 0, none⟩)), (.pointer (some ⟨Oq, 0, none⟩))])])]) ∧ iC N y1 qI i101 kH oI JW = some r) ?_ ?_))))))))
 rintro ⟨oI, JW⟩ w dD ⟨h, hs⟩
 refine cz (σ := Int × Bool) (inl [93, 94]) (fun ⟨xq, JV⟩ => []) (fun ⟨xq, JV⟩ w => SH w0 M BE w (hset [(1, .rd nJ u3 y1), (2, .blk b6 [u3]), (3, .blk b7 [v14]), (7, .own iY 113 v14 qI), (14, .blk ER [(.int .i64 (xq))]), (15, .blk yC [(.bool (JV))]), (16, .blk F7 [(.func (.func 103) #[] #[(.pointer (some ⟨ER, 0, none⟩)), (.pointer (some ⟨b6, 0, none⟩)), (.pointer (some ⟨yC, 0, none⟩))])]), (17, .blk Pv [(.func (.func 104) #[] #[(.pointer (some ⟨yC, 0, none⟩)), (.pointer (some ⟨F7, 0, none⟩)), (.pointer (some ⟨b7, 0, none⟩))])]), (18, .blk Oq [(.func (.func 109) #[] #[(.pointer (some ⟨F7, 0, none⟩)), (.pointer (some ⟨yC, 0, none⟩)), (.pointer (some ⟨Pv, 0, none⟩)), (.pointer (some ⟨Oq, 0, none⟩))])])]) ∧ iB N y1 qI i101 kH xq JV = some r) ?_ ?_
 rintro ⟨xq, JV⟩ w dD ⟨h, hs⟩
 refine cz (σ := Int × Bool) (inl [95, 96]) (fun ⟨Fg, y112⟩ => []) (fun ⟨Fg, y112⟩ w => SH w0 M BE w (hset [(1, .rd nJ u3 y1), (2, .blk b6 [u3]), (3, .blk b7 [v14]), (7, .own iY 113 v14 qI), (14, .blk ER [(.int .i64 (Fg))]), (15, .blk yC [(.bool (y112))]), (16, .blk F7 [(.func (.func 103) #[] #[(.pointer (some ⟨ER, 0, none⟩)), (.pointer (some ⟨b6, 0, none⟩)), (.pointer (some ⟨yC, 0, none⟩))])]), (17, .blk Pv [(.func (.func 104) #[] #[(.pointer (some ⟨yC, 0, none⟩)), (.pointer (some ⟨F7, 0, none⟩)), (.pointer (some ⟨b7, 0, none⟩))])]), (18, .blk Oq [(.func (.func 109) #[] #[(.pointer (some ⟨F7, 0, none⟩)), (.pointer (some ⟨yC, 0, none⟩)), (.pointer (some ⟨Pv, 0, none⟩)), (.pointer (some ⟨Oq, 0, none⟩))])])]) ∧ iA N y1 qI i101 kH Fg y112 = some r) ?_ ?_
 rintro ⟨Fg, y112⟩ w dD ⟨h, hs⟩
 refine mf (L := (fun b => b = ER ∨ b = yC ∨ ob v14 b)) mixed h fun w h => bu 0 (aL.refl _ _) rfl ax (by kernel_rfl) (by kernel_rfl) (by kernel_rfl) (fun w hk => have h := h.QW 14 15 7 (by decide) (by decide) (by decide) rfl rfl rfl hk; aD h 3 rfl xO rfl rfl) (bu 1 (aL.refl _ _) rfl ax (by kernel_rfl) (by kernel_rfl) (by kernel_rfl) (fun w hk => au (v := (.int .i64 (i101))) rfl) (bu 2 (aL.refl _ _) rfl ax (by kernel_rfl) (by kernel_rfl) (by kernel_rfl) (fun w hk => have h := h.QW 14 15 7 (by decide) (by decide) (by decide) rfl rfl rfl hk; aD h 18 rfl F3 rfl rfl) ?_))
 obtain ⟨Zz, R8⟩ : ∃ x, x = w := ⟨_, rfl⟩
 have ES : aL (fun b => b = ER ∨ b = yC ∨ ob v14 b) Zz w := R8 ▸ aL.refl (fun b => b = ER ∨ b = yC ∨ ob v14 b) w
 refine rW R8.symm (bS 3 (by kernel_rfl) rfl ax ?_)
 replace h := h.pair 14 15 (by decide)
 obtain ⟨M3, M4, M5⟩ := h.vY 14 (C := (.two (.blk ER [(.int .i64 (Fg))]) (.blk yC [(.bool (y112))]) : Chunk)) rfl ⟨trivial, trivial⟩
 obtain ⟨jY, Pw, hs⟩ := aQ hs
 refine bA JF rfl rfl (M0 N _ _ M5 (hT.go h.keep) ER yC b6 F7 b7 Pv Oq (⟨Fg, y112⟩ : dO) M3 M4 u3 y1 (h.N9 14 1 rfl rfl) v14 qI (h.YS 14 7 (by decide) rfl rfl) (h.qB 2 rfl) (fun hb => h.apart 14 2 (by decide) _ hb rfl) (h.qB 16 rfl) (fun hb => h.apart 14 16 (by decide) _ hb rfl) (h.qB 3 rfl) (fun hb => h.apart 14 3 (by decide) _ hb rfl) (h.qB 17 rfl) (fun hb => h.apart 14 17 (by decide) _ hb rfl) (h.qB 18 rfl) (fun hb => h.apart 14 18 (by decide) _ hb rfl) 1 (h.FR hT (fun _ h => h.elim) 14 (C := (.two (.blk ER [(.int .i64 (Fg))]) (.blk yC [(.bool (y112))]) : Chunk)) rfl) _ Pw) ?_
 rintro _ w ⟨II, Yd, rfl, Px, Py, Pz⟩
 refine ⟨_, rfl, ?_⟩
 replace h := h.back 14 (C := (.two (.blk ER [(.int .i64 (Fg))]) (.blk yC [(.bool (y112))]) : Chunk)) (C' := (.two (.blk ER [(.int .i64 (jY.2.at_))]) (.blk yC [(.bool (jY.2.ok))]) : Chunk)) rfl ⟨trivial, trivial⟩ Px II Py
 replace h := h.di 55 (FV Pz)
 replace h := h.bX 14 15 (by decide) rfl rfl
 replace ES := aL.step ES II (fun _ hx _ => hx.elim (fun hx => .inl (hx)) (fun hx => .inr (.inl (hx))))
 refine ah (aX ES ?_)
 obtain ⟨vS, DN, hs⟩ := aQ hs
 obtain ⟨Ye, PD, PE⟩ := h.uR 7 rfl iM rfl (aI DN).1 (aI DN).2
 refine bu 4 ES rfl ax (by kernel_rfl) (by kernel_rfl) (by kernel_rfl) (fun w hk => PE _ _ _ _ _ _ _ _ _ rfl rfl) (bu 5 ES rfl ax (by kernel_rfl) (by kernel_rfl) (by kernel_rfl) (fun w hk => ak zN rfl) (bS 6 (by kernel_rfl) rfl ax (QK (a' := { vS with body := jY.1 }) h 7 rfl PD rfl (aI DN).2 oN rfl rfl (h.iq 55 rfl).one rfl (by rintro _ hq; obtain ⟨p2, rfl, q2⟩ := ru hq; exact ⟨_, rfl, (h.iq 55 rfl)⟩) fun w h PG => ?_)))
 replace ES := aL.step ES PG (fun _ hx _ => .inr (.inr (hx)))
 refine ah (aX ES (gJ (by kernel_rfl) (aA (aa (ag (ae (dH rfl rfl Zy) (ae (au (v := (.int .i64 ((i101 + 1)))) rfl) (ah (az ?_)))))))))
 subst Xn
 exact jN ⟨K5 + 1, i101 + 1, (qI.set (i101).toNat { vS with body := jY.1 }), jY.2.at_, jY.2.ok⟩ ⟨h.cn _, by omega, hs⟩ (by have := of_decide_eq_true JU; dsimp only; omega)
 refine ag (ae (aD h 16 rfl yP rfl rfl) (jE (args := [(.pointer (some ⟨ER, 0, none⟩)), (.pointer (some ⟨b6, 0, none⟩)), (.pointer (some ⟨yC, 0, none⟩))]) yN rfl rfl (aS (args := [(.pointer (some ⟨ER, 0, none⟩)), (.pointer (some ⟨b6, 0, none⟩)), (.pointer (some ⟨yC, 0, none⟩))]) Tryz.func103 rfl Tryz.ntmps103 (Nat.le_of_ble_eq_true rfl) (ai (ag (ae (aj (v := (bz [])) rfl) (ah (aa (ai (ai (ag (ae (aD h 14 rfl aZ rfl rfl) (ae (aD h 2 rfl mE rfl rfl) (ae (bW eQ rfl (h.mH 1 rfl)) (ae (oZ rfl rfl) (ah (aa (aN hs rfl (fun qZ hs => ?_) (fun qZ hs => ?_)))))))))))))))))))
 refine ai (ag (fJ h 15 [(.bool (false))] rfl wL rfl rfl rfl rfl rfl fun w h => ah (aa (ai (ag (ae (aj (v := (bz [])) rfl) (ah (aa (aK (aC (cu (v := (bz [])) Tryz.results103 rfl (⟨_, rfl, ?_⟩))))))))))))
 refine ah (az ?_)
 exact bU (xq, false) ⟨h.cn _, hs⟩
 refine aG (aa (ai (ag (ae (aD h 14 rfl aZ rfl rfl) ?_))))
 obtain ⟨a126, hs⟩ := bM hs
 refine ae (dH rfl rfl a126) (fJ h 14 [(.int .i64 ((xq + 1)))] rfl aZ rfl rfl rfl rfl rfl fun w h => ah (aa (ai (ag (ae (aD h 2 rfl mE rfl rfl) (ae (aD h 14 rfl aZ rfl rfl) ?_))))))
 obtain ⟨a127, hs⟩ := bM hs
 refine ae (oz rfl rfl a127) ?_
 obtain ⟨UC, e129, hs⟩ := aQ hs
 obtain ⟨b131, o132, cs133, h, r134, i130⟩ := h.Dm 1 115 rfl eQ rfl (aI e129).1 (aI e129).2
 obtain rfl := r134
 refine ae (i130 _ _ _ _ _ _ _ _ _ rfl rfl) (ae (eO (k := 0) h 115 rfl xP rfl rfl) (ae (aj (v := (bz UC)) rfl) (ah (aa (aK (cu (v := (bz UC)) Tryz.results103 rfl (⟨_, rfl, ?_⟩)))))))
 refine ah (az ?_)
 exact bU ((xq + 1), JV) ⟨h.cn _, hs⟩
 refine ag (ae (aD h 16 rfl yP rfl rfl) (jE (args := [(.pointer (some ⟨ER, 0, none⟩)), (.pointer (some ⟨b6, 0, none⟩)), (.pointer (some ⟨yC, 0, none⟩))]) yN rfl rfl (aS (args := [(.pointer (some ⟨ER, 0, none⟩)), (.pointer (some ⟨b6, 0, none⟩)), (.pointer (some ⟨yC, 0, none⟩))]) Tryz.func103 rfl Tryz.ntmps103 (Nat.le_of_ble_eq_true rfl) (ai (ag (ae (aj (v := (bz [])) rfl) (ah (aa (ai (ai (ag (ae (aD h 14 rfl aZ rfl rfl) (ae (aD h 2 rfl mE rfl rfl) (ae (bW eQ rfl (h.mH 1 rfl)) (ae (oZ rfl rfl) (ah (aa (aN hs rfl (fun c135 hs => ?_) (fun c135 hs => ?_)))))))))))))))))))
 refine ai (ag (fJ h 15 [(.bool (false))] rfl wL rfl rfl rfl rfl rfl fun w h => ah (aa (ai (ag (ae (aj (v := (bz [])) rfl) (ah (aa (aK (aC (cu (v := (bz [])) Tryz.results103 rfl (⟨_, rfl, ?_⟩))))))))))))
 refine ah (az ?_)
 exact bU (oI, false) ⟨h.cn _, hs⟩
 refine aG (aa (ai (ag (ae (aD h 14 rfl aZ rfl rfl) ?_))))
 obtain ⟨a136, hs⟩ := bM hs
 refine ae (dH rfl rfl a136) (fJ h 14 [(.int .i64 ((oI + 1)))] rfl aZ rfl rfl rfl rfl rfl fun w h => ah (aa (ai (ag (ae (aD h 2 rfl mE rfl rfl) (ae (aD h 14 rfl aZ rfl rfl) ?_))))))
 obtain ⟨a137, hs⟩ := bM hs
 refine ae (oz rfl rfl a137) ?_
 obtain ⟨UD, PH, hs⟩ := aQ hs
 obtain ⟨b141, o142, cs143, h, r144, i140⟩ := h.Dm 1 116 rfl eQ rfl (aI PH).1 (aI PH).2
 obtain rfl := r144
 refine ae (i140 _ _ _ _ _ _ _ _ _ rfl rfl) (ae (eO (k := 0) h 116 rfl xP rfl rfl) (ae (aj (v := (bz UD)) rfl) (ah (aa (aK (cu (v := (bz UD)) Tryz.results103 rfl (⟨_, rfl, ?_⟩)))))))
 refine ah (az ?_)
 exact bU ((oI + 1), JW) ⟨h.cn _, hs⟩
 refine cz (σ := Bool × Int × Bool) (inl [90, 91, 92]) (fun ⟨K4, Fh, JX⟩ => [(92, (.bool (K4)))]) (fun ⟨K4, Fh, JX⟩ w => SH w0 M BE w (hset [(1, .rd nJ u3 y1), (2, .blk b6 [u3]), (3, .blk b7 [v14]), (7, .own iY 113 v14 qI), (14, .blk ER [(.int .i64 (Fh))]), (15, .blk yC [(.bool (JX))]), (16, .blk F7 [(.func (.func 103) #[] #[(.pointer (some ⟨ER, 0, none⟩)), (.pointer (some ⟨b6, 0, none⟩)), (.pointer (some ⟨yC, 0, none⟩))])]), (17, .blk Pv [(.func (.func 104) #[] #[(.pointer (some ⟨yC, 0, none⟩)), (.pointer (some ⟨F7, 0, none⟩)), (.pointer (some ⟨b7, 0, none⟩))])]), (18, .blk Oq [(.func (.func 109) #[] #[(.pointer (some ⟨F7, 0, none⟩)), (.pointer (some ⟨yC, 0, none⟩)), (.pointer (some ⟨Pv, 0, none⟩)), (.pointer (some ⟨Oq, 0, none⟩))])])]) ∧ iD N y1 qI i101 kH K4 Fh JX = some r) ?_ ?_
 rintro ⟨K4, Fh, JX⟩ w dD ⟨h, hs⟩
 refine aN hs rfl (fun c148 hs => ?_) (fun c148 hs => ?_)
 refine ag (fJ h 15 [(.bool (false))] rfl wL rfl rfl rfl rfl rfl fun w h => ah (az ?_))
 exact bU (Fh, false) ⟨h.cn _, hs⟩
 refine aG (az ?_)
 exact bU (Fh, JX) ⟨h.cn _, hs⟩
 refine ag (ae (aD h 16 rfl yP rfl rfl) (jE (args := [(.pointer (some ⟨ER, 0, none⟩)), (.pointer (some ⟨b6, 0, none⟩)), (.pointer (some ⟨yC, 0, none⟩))]) yN rfl rfl (aS (args := [(.pointer (some ⟨ER, 0, none⟩)), (.pointer (some ⟨b6, 0, none⟩)), (.pointer (some ⟨yC, 0, none⟩))]) Tryz.func103 rfl Tryz.ntmps103 (Nat.le_of_ble_eq_true rfl) (ai (ag (ae (aj (v := (bz [])) rfl) (ah (aa (ai (ai (ag (ae (aD h 14 rfl aZ rfl rfl) (ae (aD h 2 rfl mE rfl rfl) (ae (bW eQ rfl (h.mH 1 rfl)) (ae (oZ rfl rfl) (ah (aa (aN hs rfl (fun c149 hs => ?_) (fun c149 hs => ?_)))))))))))))))))))
 refine ai (ag (fJ h 15 [(.bool (false))] rfl wL rfl rfl rfl rfl rfl fun w h => ah (aa (ai (ag (ae (aj (v := (bz [])) rfl) (ah (aa (aK (aC (cu (v := (bz [])) Tryz.results103 rfl (⟨_, rfl, ?_⟩))))))))))))
 refine ae (FP rfl rfl) (ah (az ?_))
 exact bU (true, y98, false) ⟨h.cn _, hs⟩
 refine aG (aa (ai (ag (ae (aD h 14 rfl aZ rfl rfl) ?_))))
 obtain ⟨a150, hs⟩ := bM hs
 refine ae (dH rfl rfl a150) (fJ h 14 [(.int .i64 ((y98 + 1)))] rfl aZ rfl rfl rfl rfl rfl fun w h => ah (aa (ai (ag (ae (aD h 2 rfl mE rfl rfl) (ae (aD h 14 rfl aZ rfl rfl) ?_))))))
 obtain ⟨a151, hs⟩ := bM hs
 refine ae (oz rfl rfl a151) ?_
 obtain ⟨x152, e153, hs⟩ := aQ hs
 obtain ⟨b155, o156, cs157, h, r158, i154⟩ := h.Dm 1 117 rfl eQ rfl (aI e153).1 (aI e153).2
 obtain rfl := r158
 refine ae (i154 _ _ _ _ _ _ _ _ _ rfl rfl) (ae (eO (k := 0) h 117 rfl xP rfl rfl) (ae (aj (v := (bz x152)) rfl) (ah (aa (aK (cu (v := (bz x152)) Tryz.results103 rfl (⟨_, rfl, ?_⟩)))))))
 refine ae (FP rfl rfl) (ah (az ?_))
 exact bU (decide ((x152 : Str) ≠ [102, 117, 110]), (y98 + 1), y99) ⟨h.cn _, hs⟩
 rw [tV (by have := of_decide_eq_false JU; omega)] at hs
 refine dh (aO (aO (bE (aa (ai (cz (σ := Bool) (inl [104, 105, 106, 107, 108, 109, 110, 111, 112, 113, 114, 115, 116, 117, 118, 119, 120, 121, 122]) (fun x159 => [(122, (.bool (x159)))]) (fun x159 w => SH w0 M BE w (hset [(3, .blk b7 [v14]), (7, .own iY 113 v14 qI)]) ∧ jk qI x159 = some r) ?_ ?_))))))
 rintro x159 w dD ⟨h, hs⟩
 refine aN hs rfl (fun c160 hs => ?_) (fun c160 hs => ?_)
 refine ai (ag (ae (aj (v := (.slice none 0 0)) rfl) (ae (aj (v := (.int .i64 (1))) rfl) (ah (aa (aK (aC (Dq (v1 := (.slice none 0 0)) (v2 := (.int .i64 (1))) Tryz.results77 rfl rfl ?_))))))))
 obtain rfl := Option.some.inj hs
 exact ⟨h.grown, _, rfl, ek.nil, l8⟩
 refine aG (aa (ai (ag (ae (aD h 3 rfl xO rfl rfl) (ae (aj (v := v14) rfl) (ae (aj (v := (.int .i64 (0))) rfl) (ah (aa (aK (Dq (v1 := v14) (v2 := (.int .i64 (0))) Tryz.results77 rfl rfl ?_))))))))))
 obtain rfl := Option.some.inj hs
 exact ⟨h.grown, _, rfl, (h.mP 7 rfl).1, (h.mP 7 rfl).2⟩
 refine ag (ae (aD h 15 rfl wL rfl rfl) (ae (gZ rfl) (ae (au (v := (.bool ((!y99)))) rfl) (aF rfl rfl (fun q => aD h 14 rfl aZ rfl rfl) (aF rfl rfl (fun q => aD h 2 rfl mE rfl rfl) (aF rfl rfl (fun q => bW eQ (dA q) (h.mH 1 rfl)) (aF rfl rfl (fun q => dS (dA q) (dA q)) (ae (ic rfl rfl ma) (ae (au (v := (.bool (((!y99) || decide ((y98 : Int) < (y1.length : Int)))))) rfl) (iQ (b := ((!y99) || decide ((y98 : Int) < (y1.length : Int)))) hs (fun JY hs => ?_) (fun JY hs => ?_)))))))))))
 refine bH (b' := true) rfl (congrArg Value.bool JY) rfl (bH (b' := true) rfl (congrArg Value.bool JY) rfl (bH (b' := true) rfl (congrArg Value.bool JY) rfl (ae (cK (b := true) (v := (.bool (true))) (congrArg Value.bool JY) rfl) (ae (au (v := (.bool (true))) rfl) (bH (b' := true) rfl rfl rfl (bH (b' := true) rfl rfl rfl (bH (b' := true) rfl rfl rfl (bH (b' := true) rfl rfl rfl (ae (cK (b := true) (v := (.bool (true))) rfl rfl) (ah (az ?_)))))))))))
 exact bU true ⟨h.cn _, hs⟩
 refine dK rfl (congrArg Value.bool JY) (ae (aD h 3 rfl xO rfl rfl) (dK rfl (congrArg Value.bool JY) ?_))
 obtain ⟨R5, e163, hs⟩ := aQ hs
 refine bA Un rfl rfl (wM N _ _ h.lt v14 qI (h.eF 7 rfl) _ e163) ?_
 rintro _ w ⟨k164, rfl⟩
 refine ⟨_, rfl, ?_⟩
 replace h := h.grow k164
 refine dK rfl (congrArg Value.bool JY) (ae (gu rfl rfl) (ae (cK (b := false) (v := (.bool (decide ((R5 : Int) ≠ 0)))) (congrArg Value.bool JY) rfl) (ae (au (v := (.bool (decide ((R5 : Int) ≠ 0)))) rfl) (iQ (b := decide ((R5 : Int) ≠ 0)) hs (fun Gf hs => ?_) (fun Gf hs => ?_)))))
 refine bH (b' := true) rfl (congrArg Value.bool Gf) rfl (bH (b' := true) rfl (congrArg Value.bool Gf) rfl (bH (b' := true) rfl (congrArg Value.bool Gf) rfl (bH (b' := true) rfl (congrArg Value.bool Gf) rfl (ae (cK (b := true) (v := (.bool (true))) (congrArg Value.bool Gf) rfl) (ah (az ?_))))))
 exact bU true ⟨h.cn _, hs⟩
 refine dK rfl (congrArg Value.bool Gf) (ae (aD h 3 rfl xO rfl rfl) (dK rfl (congrArg Value.bool Gf) ?_))
 obtain ⟨UE, e167, hs⟩ := aQ hs
 refine bA Uo rfl rfl (xm N _ _ h.lt (hT.go h.keep) v14 qI (h.eF 7 rfl) _ e167) ?_
 rintro _ w ⟨k168, rfl⟩
 refine ⟨_, rfl, ?_⟩
 replace h := h.grow k168
 refine dK rfl (congrArg Value.bool Gf) (ae (au (v := (bz a)) rfl) (dK rfl (congrArg Value.bool Gf) (ae (FP rfl rfl) (ae (cK (b := false) (v := (.bool (decide ((UE : Str) ≠ a)))) (congrArg Value.bool Gf) rfl) (ah (az ?_))))))
 exact bU (decide ((UE : Str) ≠ a)) ⟨h.cn _, hs⟩
def ko (N : Nat) : Option (List fB) :=
  (ky N [102, 117, 110, 32, 48, 32, 49, 32, 123, 32, 115, 101, 116, 32, 48, 32, 51, 32, 119, 104, 105, 108, 101, 32, 118, 48, 32, 123, 32, 115, 97, 121, 32, 102, 49, 32, 118, 48, 32, 118, 48, 32, 103, 111, 32, 118, 48, 32, 112, 97, 117, 115, 101, 32, 115, 101, 116, 32, 48, 32, 45, 32, 118, 48, 32, 49, 32, 125, 32, 125, 32, 102, 117, 110, 32, 50, 32, 50, 32, 123, 32, 114, 101, 116, 117, 114, 110, 32, 42, 32, 118, 48, 32, 118, 49, 32, 125]).bind fun y1 => some y1.1
theorem zu (N : Nat) (w0 : World) (M : BS) (hM : ∀ b, M b → b < w0.heap.size) (hT : uj Tryz.prog 4 w0)  (r : List fB) (hs : ko N = some r) :
    Calls Tryz.prog 40 #[] w0 (fun e w' => Grow w0 w' ∧ ∃ u0, e = .returned (u0) ∧ ek iY 113 w' M u0 r ∧ (∀ b, ob u0 b → w0.heap.size ≤ b)) := by
 refine aS (args := []) Tryz.func40 rfl Tryz.ntmps40 (Nat.le_of_ble_eq_true rfl) ?_
 have h := SH.init hM
 refine ai (ag (ae (aj (v := (.slice none 0 0)) rfl) (ah (aa (ai (ag ?_))))))
 obtain ⟨y1, e2, hs⟩ := aQ hs
 refine bA WB rfl rfl (xu N _ _ h.lt (hT.go h.keep) [102, 117, 110, 32, 48, 32, 49, 32, 123, 32, 115, 101, 116, 32, 48, 32, 51, 32, 119, 104, 105, 108, 101, 32, 118, 48, 32, 123, 32, 115, 97, 121, 32, 102, 49, 32, 118, 48, 32, 118, 48, 32, 103, 111, 32, 118, 48, 32, 112, 97, 117, 115, 101, 32, 115, 101, 116, 32, 48, 32, 45, 32, 118, 48, 32, 49, 32, 125, 32, 125, 32, 102, 117, 110, 32, 50, 32, 50, 32, 123, 32, 114, 101, 116, 117, 114, 110, 32, 42, 32, 118, 48, 32, 118, 49, 32, 125] _ e2) ?_
 rintro _ w ⟨k6, u3, rfl, g4, g5⟩
 refine ⟨_, rfl, ?_⟩
 replace h := h.kJ 1 k6 g4 g5
 refine ae (au (v := (.tuple #[u3, (.int .i64 (y1.2))])) rfl) (ae (bF rfl rfl) (ae (bF rfl rfl) (ae (aj (v := u3) rfl) (ae (aj (v := (.int .i64 (y1.2))) rfl) (ah (aa (ai (ag (ae (au (v := u3) rfl) (ae (aj (v := u3) rfl) (ah (aa (aK (cu (v := u3) Tryz.results40 rfl ?_))))))))))))))
 obtain rfl := Option.some.inj hs
 exact ⟨h.grown, _, rfl, (h.mP 1 rfl).1, (h.mP 1 rfl).2⟩
def fO (x31 : List Ins) (c : Int) (x34 : Int) (yD : Int) (K6 : Int) (tY : Int) (AJ : List Int) : Option (List Ins × Int) :=
  ib (Room 56 x31 [(⟨yD, c, K6, tY, AJ⟩ : Ins)]) (some ((x31 ++ [(⟨yD, c, K6, tY, AJ⟩ : Ins)]), x34))
def oQ (F0 : List Tok → List fB → Int → Option (List Ins × Int)) (y9 : Int) (a : List Tok) (c : Int) (b : List fB) (x1 : Tok) (s : List Ins × List Int × Int × Int) (R9 : List Ins × List Int × Int × Int → Option (List Ins × Int)) : Option (List Ins × Int) :=
  match s with | (x31, yR, x34, xB) => bif decide ((xB : Int) < y9) then (sub? a x34 (a.length : Int)).bind fun Yf => ib (jO (c + xB)) ((F0 Yf b (c + xB)).bind fun xR => ib (Room 56 x31 xR.1) (ib (jO (x34 + xR.2)) (ib (jO (c + xB)) (ib (Room 8 yR [(c + xB)]) (ib (jO (xB + 1)) (R9 ((x31 ++ xR.1), (yR ++ [(c + xB)]), (x34 + xR.2), (xB + 1)))))))) else bif decide ((x1.kind : Int) = 1) then fO x31 c x34 1 x1.n 0 [] else bif decide ((x1.kind : Int) = 2) then fO x31 c x34 2 x1.n 0 [] else bif decide ((x1.kind : Int) = 5) then fO x31 c x34 5 x1.n 0 [] else bif decide ((x1.kind : Int) = 3) then ib (jO (c + 1)) (fO x31 c x34 3 c (c + 1) [x1.n]) else bif decide ((x1.kind : Int) = 4) then fO x31 c x34 4 c x1.n [] else bif decide ((x1.kind : Int) = 6) then fO x31 c x34 7 x1.n 0 yR else fO x31 c x34 0 x1.n 0 []
def uE (N : Nat) (F0 : List Tok → List fB → Int → Option (List Ins × Int)) (a : List Tok) (b : List fB) (c : Int) : Option (List Ins × Int) :=
  (idx a 0).bind fun x1 => (qp x1 b).bind fun y9 => again (oQ F0 y9 a c b x1) N ([], [], 1, 0)
def jK : Nat → List Tok → List fB → Int → Option (List Ins × Int)
  | 0 => fun _ _ _ => none
  | N + 1 => uE N (jK N)
theorem uF : ∀ (N : Nat) (w0 : World) (M : BS) (hM : ∀ b, M b → b < w0.heap.size) (va : Value) (a : List Tok) (ha : gL ku w0 BE M va a) (vb : Value) (b : List fB) (hb : gL iY w0 BE M vb b) (c : Int) (r : List Ins × Int) (hs : jK N a b c = some r),
    Calls Tryz.prog 100 #[va, vb, (.int .i64 (c))] w0 (fun e w' => Grow w0 w' ∧ ∃ u0, e = .returned (.tuple #[u0, .int .i64 r.2]) ∧ ek jD 93 w' M u0 r.1 ∧ (∀ b, ob u0 b → w0.heap.size ≤ b)) := by
 intro N
 induction N with
 | zero => intro w0 M hM va a ha vb b hb c r hs; cases hs
 | succ N ih =>
 intro w0 M hM va a ha vb b hb c r hs
 replace hs : uE N (jK N) a b c = some r := hs
 generalize jK N = F0 at hs ih
 refine aS (args := [va, vb, (.int .i64 (c))]) Tryz.func100 rfl Tryz.ntmps100 (Nat.le_of_ble_eq_true rfl) ?_
 have h := SH.init hM
 replace h := h.fI 1 ha bN
 replace h := h.fI 2 hb (dn bN)
 have uw := ha.cB
 have JM := hb.cB
 refine ai (ag (ae (aj (v := (.slice none 0 0)) rfl) (ae (aj (v := (.int .i64 (0))) rfl) (ah (aa (ai (ag (ae (au (v := va) rfl) ?_))))))))
 obtain ⟨x1, e2, hs⟩ := aQ hs
 obtain ⟨b4, o5, cs6, h, r7, i3⟩ := h.xD 1 3 rfl j5 rfl (aI e2).1 (aI e2).2
 obtain rfl := r7
 refine ae (i3 _ _ _ _ _ _ _ _ _ rfl rfl) (ae (jg (k := 0) (vs := [(.int .i64 (x1.kind)), (.int .i64 (x1.n))]) h 3 rfl jX rfl rfl rfl (Nat.le_of_ble_eq_true rfl)) (bY h 4 jX fun w b8 h => dB (vs := [(.int .i64 (x1.kind)), (.int .i64 (x1.n))]) h 4 [(.int .i64 (x1.kind)), (.int .i64 (x1.n))] rfl jX rfl rfl rfl rfl rfl (ay rfl (ay rfl bg)) fun w h => ah (aa (ai (ag (ae (aj (v := (.slice none 0 0)) rfl) (ah (aa (ai (ag (ae (aj (v := (.slice none 0 0)) rfl) (ah (aa (ai (ag (ae (aj (v := (.int .i64 (1))) rfl) (ah (aa (ai (ai (ag ?_)))))))))))))))))))))
 refine ae (dE (vs := [(.int .i64 (x1.kind)), (.int .i64 (x1.n))]) h 4 rfl jX rfl rfl rfl) (ae (au (v := vb) rfl) ?_)
 obtain ⟨y9, e10, hs⟩ := aQ hs
 refine bA JE rfl rfl (qY _ _ h.lt x1 vb b (h.iI 2 rfl) _ e10) ?_
 rintro _ w ⟨k11, rfl⟩
 refine ⟨_, rfl, ?_⟩
 replace h := h.grow k11
 refine ae (au (v := (.int .i64 (0))) rfl) (ah (aa (aU ?_)))
 replace h := h.yF (R := jD) (E := 93) 11
 replace h := h.yF (R := fT) (E := 3) 12
 refine gP (σ := Nat × Value × List Ins × Value × List Int × Int × Int) (inl [9, 10, 11, 12, 13, 14, 22, 23, 24, 25, 26, 27, 28, 29, 30, 31, 32, 33, 34, 35, 36, 37, 38, 39, 40, 41, 42, 43, 44, 45, 46, 47, 48]) (fun ⟨Xo, v30, x31, v32, yR, x34, xB⟩ => [(9, v30), (10, v32), (11, (.int .i64 (x34))), (22, (.int .i64 (xB)))]) (fun ⟨Xo, v30, x31, v32, yR, x34, xB⟩ w => SH w0 M BE w (hset [(1, .sr ku va a), (2, .sr iY vb b), (4, .blk b8 [(.int .i64 (x1.kind)), (.int .i64 (x1.n))]), (11, .own jD 93 v30 x31), (12, .own fT 3 v32 yR)]) ∧ again (oQ F0 y9 a c b x1) Xo (x31, yR, x34, xB) = some r) (fun ⟨Xo, v30, x31, v32, yR, x34, xB⟩ => Xo) ⟨N, (.slice none 0 0), [], (.slice none 0 0), [], 1, 0⟩ ⟨rfl, rfl, rfl, rfl, trivial⟩ ?_ ?_
 exact ⟨h.cn _, hs⟩
 rintro ⟨Xo, v30, x31, v32, yR, x34, xB⟩ w dD ⟨h, hs⟩
 obtain ⟨ZA, m39e, m39h⟩ := rf hs
 subst m39e
 replace hs := m39h
 generalize Sa : again (oQ F0 y9 a c b x1) ZA = R9 at hs
 refine ai (ag (ae (dS rfl rfl) (ah (aa (ai (aN hs rfl (fun c43 hs => ?_) (fun c43 hs => ?_)))))))
 refine aG (aa (ai (aU (ai (ag (ae (au (v := (.int .i64 (xB))) rfl) (ae (aj (v := (.int .i64 (xB))) rfl) (ah (aa (ai (ag (ae (au (v := va) rfl) (ae (au (v := (.int .i64 (x34))) rfl) ?_)))))))))))))
 obtain ⟨Yf, e45, hs⟩ := aQ hs
 obtain ⟨e48, e48a, e48b, e48c⟩ := QC e45
 obtain ⟨u46, h, i47⟩ := h.slS 1 13 rfl j5 rfl e48a e48b e48c
 rw [← e48] at h
 refine ae (i47 _ _ _ _ _ _ _ _ _ _ rfl (.inr (congrArg some rfl)) (.inl ⟨rfl, rfl⟩)) (ae (au (v := vb) rfl) (ae (au (v := (.int .i64 (c))) rfl) (ae (au (v := (.int .i64 (xB))) rfl) ?_)))
 obtain ⟨a49, hs⟩ := bM hs
 refine ae (dH rfl rfl a49) ?_
 obtain ⟨xR, e51, hs⟩ := aQ hs
 refine bA JC rfl rfl (ih _ _ h.lt u46 Yf (h.iI 13 rfl) vb b (h.iI 2 rfl) (c + xB) _ e51) ?_
 rintro _ w ⟨k55, Vu, rfl, g53, g54⟩
 refine ⟨_, rfl, ?_⟩
 replace h := h.kJ 14 k55 g53 g54
 refine ae (au (v := (.tuple #[Vu, (.int .i64 (xR.2))])) rfl) (ae (bF rfl rfl) (ae (bF rfl rfl) (ae (aj (v := Vu) rfl) (ae (aj (v := (.int .i64 (xR.2))) rfl) (ah (aa (ag (ae (au (v := v30) rfl) (ae (au (v := Vu) rfl) ?_)))))))))
 obtain ⟨a56, hs⟩ := bM hs
 refine mO (R := jD) (m := xR.1) h 11 rfl (h.eF 14 rfl) fu rfl rfl rfl a56.1 a56.2 fun w u57 h => ae (au (v := (.int .i64 (x34))) rfl) (ae (au (v := (.int .i64 (xR.2))) rfl) ?_)
 obtain ⟨a58, hs⟩ := bM hs
 refine ae (dH rfl rfl a58) (ae (au (v := v32) rfl) (ae (au (v := (.int .i64 (c))) rfl) (ae (au (v := (.int .i64 (xB))) rfl) ?_)))
 obtain ⟨a59, hs⟩ := bM hs
 refine ae (dH rfl rfl a59) (tJ (R := fT) (vs := [(.int .i64 ((c + xB)))]) (xs := [(c + xB)]) h 15 kK rfl rfl rfl ⟨rfl, trivial⟩ rfl fun w u60 h => ?_)
 obtain ⟨a61, hs⟩ := bM hs
 refine mO (R := fT) (m := [(c + xB)]) h 12 rfl (h.eF 15 rfl) kK rfl rfl rfl a61.1 a61.2 fun w X6 h => ae (aj (v := u57) rfl) (ae (aj (v := (.int .i64 ((x34 + xR.2)))) rfl) (ae (aj (v := X6) rfl) (ah (aA (aa (ag ?_))))))
 obtain ⟨a63, hs⟩ := bM hs
 refine ae (dH rfl rfl a63) (ae (au (v := (.int .i64 ((xB + 1)))) rfl) (ah (az ?_)))
 subst Sa
 exact jN ⟨ZA, u57, (x31 ++ xR.1), X6, (yR ++ [(c + xB)]), (x34 + xR.2), (xB + 1)⟩ ⟨h.cn _, hs⟩
 refine dh (aO (aO (bE (aa (ai (ag (ae (au (v := (.int .i64 (c))) rfl) (ae (ak mU rfl) (ae (aD h 4 rfl aZ rfl rfl) (ae (dV (pv := [(1, (.int .i64 (c))), (2, (.int .i64 (x1.n)))]) (out := [(.int .i64 (0)), (.int .i64 (c)), (.int .i64 (x1.n)), (.int .i64 (0)), (.slice none 0 0)]) mh rfl ⟨1, 1, [(.int .i64 (c))], rfl, rfl, rfl, Nat.le_of_ble_eq_true rfl, ⟨2, 1, [(.int .i64 (x1.n))], rfl, rfl, rfl, Nat.le_of_ble_eq_true rfl, rfl⟩⟩) (bY h 16 pK fun w b64 h => dB (vs := [(.int .i64 (0)), (.int .i64 (c)), (.int .i64 (x1.n)), (.int .i64 (0)), (.slice none 0 0)]) h 16 [(.int .i64 (0)), (.int .i64 (c)), (.int .i64 (x1.n)), (.int .i64 (0)), (.slice none 0 0)] rfl pK rfl rfl rfl rfl rfl (ay rfl (ay rfl (ay rfl (ay rfl (ay rfl bg))))) fun w h => ah (aa (cz (σ := Int × Int × Int × Value × List Int) (inl [53, 54, 55, 56, 57, 58, 59, 60, 61, 62, 63, 64, 65, 66, 67, 68, 69, 70, 71, 72, 73, 74, 75, 76, 77, 78, 79, 80, 81, 82, 83, 84, 85]) (fun ⟨yD, K6, tY, v68, AJ⟩ => []) (fun ⟨yD, K6, tY, v68, AJ⟩ w => SH w0 M BE w (hset [(11, .own jD 93 v30 x31), (16, .blk b64 [(.int .i64 (yD)), (.int .i64 (c)), (.int .i64 (K6)), (.int .i64 (tY)), v68]), (17, .own fT 3 v68 AJ)]) ∧ fO x31 c x34 yD K6 tY AJ = some r) ?_ ?_)))))))))))))
 rintro ⟨yD, K6, tY, v68, AJ⟩ w dD ⟨h, hs⟩
 refine ai (ag (ae (au (v := v30) rfl) (ae (dE (vs := [(.int .i64 (yD)), (.int .i64 (c)), (.int .i64 (K6)), (.int .i64 (tY)), v68]) h 16 rfl pK rfl rfl rfl) ?_)))
 replace h := h.freeze 17 rfl
 refine tJ (R := jD) (vs := [(.agg #[(.int .i64 (yD)), (.int .i64 (c)), (.int .i64 (K6)), (.int .i64 (tY)), v68])]) (xs := [(⟨yD, c, K6, tY, AJ⟩ : Ins)]) h 18 fu rfl rfl rfl ⟨⟨_, rfl, (h.iq 17 rfl)⟩, trivial⟩ rfl fun w u70 h => ?_
 obtain ⟨a71, hs⟩ := bM hs
 refine mO (R := jD) (m := [(⟨yD, c, K6, tY, AJ⟩ : Ins)]) h 11 rfl (h.eF 18 rfl) fu rfl rfl rfl a71.1 a71.2 fun w u72 h => ae (au (v := (.int .i64 (x34))) rfl) (ae (aj (v := u72) rfl) (ae (aj (v := (.int .i64 (x34))) rfl) (ah (aa (aK (Dq (v1 := u72) (v2 := (.int .i64 (x34))) Tryz.results100 rfl rfl ?_))))))
 obtain rfl := Option.some.inj hs
 exact ⟨h.grown, _, rfl, (h.mP 11 rfl).1, (h.mP 11 rfl).2⟩
 refine ai (ag (ae (ak CG rfl) (ae (aD h 4 rfl aZ rfl rfl) (ah (aa (aU (ai (ag (ae (bJ rfl rfl) (ae (aj (v := (.bool (decide ((x1.kind : Int) = 1)))) rfl) (ah (aa (aN hs rfl (fun c73 hs => ?_) (fun c73 hs => ?_))))))))))))))
 refine ag (ae (ak pz rfl) (fJ h 16 [(.int .i64 (1)), (.int .i64 (c)), (.int .i64 (x1.n)), (.int .i64 (0)), (.slice none 0 0)] rfl aZ rfl rfl rfl rfl rfl fun w h => ah (aA (az ?_))))
 replace h := h.yF (R := fT) (E := 3) 17
 exact bU (1, x1.n, 0, (.slice none 0 0), []) ⟨h.cn _, hs⟩
 refine ai (ag (ae (bJ rfl rfl) (ae (aj (v := (.bool (decide ((x1.kind : Int) = 2)))) rfl) (ah (aa (aN hs rfl (fun Zm hs => ?_) (fun Zm hs => ?_)))))))
 refine ag (ae (ak pz rfl) (fJ h 16 [(.int .i64 (2)), (.int .i64 (c)), (.int .i64 (x1.n)), (.int .i64 (0)), (.slice none 0 0)] rfl aZ rfl rfl rfl rfl rfl fun w h => ah (aA (az ?_))))
 replace h := h.yF (R := fT) (E := 3) 17
 exact bU (2, x1.n, 0, (.slice none 0 0), []) ⟨h.cn _, hs⟩
 refine ai (ag (ae (bJ rfl rfl) (ae (aj (v := (.bool (decide ((x1.kind : Int) = 5)))) rfl) (ah (aa (aN hs rfl (fun c75 hs => ?_) (fun c75 hs => ?_)))))))
 refine ag (ae (ak pz rfl) (fJ h 16 [(.int .i64 (5)), (.int .i64 (c)), (.int .i64 (x1.n)), (.int .i64 (0)), (.slice none 0 0)] rfl aZ rfl rfl rfl rfl rfl fun w h => ah (aA (az ?_))))
 replace h := h.yF (R := fT) (E := 3) 17
 exact bU (5, x1.n, 0, (.slice none 0 0), []) ⟨h.cn _, hs⟩
 refine ai (ag (ae (bJ rfl rfl) (ae (aj (v := (.bool (decide ((x1.kind : Int) = 3)))) rfl) (ah (aa (aN hs rfl (fun c76 hs => ?_) (fun c76 hs => ?_)))))))
 refine ag (ae (au (v := (.int .i64 (c))) rfl) (ae (au (v := (.int .i64 (c))) rfl) (ae (au (v := (.int .i64 (c))) rfl) ?_)))
 obtain ⟨a77, hs⟩ := bM hs
 refine ae (dH rfl rfl a77) (ae (ak mU rfl) (ae (aD h 4 rfl aZ rfl rfl) (tJ (R := fT) (vs := [(.int .i64 (x1.n))]) (xs := [x1.n]) h 19 kK rfl rfl rfl ⟨rfl, trivial⟩ rfl fun w Ki h => ae (dV (pv := [(0, (.int .i64 (3))), (1, (.int .i64 (c))), (2, (.int .i64 (c))), (3, (.int .i64 ((c + 1)))), (4, Ki)]) (out := [(.int .i64 (3)), (.int .i64 (c)), (.int .i64 (c)), (.int .i64 ((c + 1))), Ki]) mh rfl ⟨0, 1, [(.int .i64 (3))], rfl, rfl, rfl, Nat.le_of_ble_eq_true rfl, ⟨1, 1, [(.int .i64 (c))], rfl, rfl, rfl, Nat.le_of_ble_eq_true rfl, ⟨2, 1, [(.int .i64 (c))], rfl, rfl, rfl, Nat.le_of_ble_eq_true rfl, ⟨3, 1, [(.int .i64 ((c + 1)))], rfl, rfl, rfl, Nat.le_of_ble_eq_true rfl, ⟨4, 1, [Ki], rfl, (jh (h.dJ 19 rfl).one), rfl, Nat.le_of_ble_eq_true rfl, rfl⟩⟩⟩⟩⟩) (dB (vs := [(.int .i64 (3)), (.int .i64 (c)), (.int .i64 (c)), (.int .i64 ((c + 1))), Ki]) h 16 [(.int .i64 (3)), (.int .i64 (c)), (.int .i64 (c)), (.int .i64 ((c + 1))), Ki] rfl pK rfl rfl rfl rfl rfl (ay rfl (ay rfl (ay rfl (ay rfl (ay (h.dJ 19 rfl).one bg))))) fun w h => ah (aA (az ?_))))))
 replace h := h.Cx 19 17 rfl rfl (by decide)
 exact bU (3, c, (c + 1), Ki, [x1.n]) ⟨h.cn _, hs⟩
 refine ai (ag (ae (bJ rfl rfl) (ae (aj (v := (.bool (decide ((x1.kind : Int) = 4)))) rfl) (ah (aa (aN hs rfl (fun c79 hs => ?_) (fun c79 hs => ?_)))))))
 refine ag (ae (au (v := (.int .i64 (c))) rfl) (ae (au (v := (.int .i64 (c))) rfl) (ae (ak mU rfl) (ae (aD h 4 rfl aZ rfl rfl) (ae (dV (pv := [(0, (.int .i64 (4))), (1, (.int .i64 (c))), (2, (.int .i64 (c))), (3, (.int .i64 (x1.n)))]) (out := [(.int .i64 (4)), (.int .i64 (c)), (.int .i64 (c)), (.int .i64 (x1.n)), (.slice none 0 0)]) mh rfl ⟨0, 1, [(.int .i64 (4))], rfl, rfl, rfl, Nat.le_of_ble_eq_true rfl, ⟨1, 1, [(.int .i64 (c))], rfl, rfl, rfl, Nat.le_of_ble_eq_true rfl, ⟨2, 1, [(.int .i64 (c))], rfl, rfl, rfl, Nat.le_of_ble_eq_true rfl, ⟨3, 1, [(.int .i64 (x1.n))], rfl, rfl, rfl, Nat.le_of_ble_eq_true rfl, rfl⟩⟩⟩⟩) (dB (vs := [(.int .i64 (4)), (.int .i64 (c)), (.int .i64 (c)), (.int .i64 (x1.n)), (.slice none 0 0)]) h 16 [(.int .i64 (4)), (.int .i64 (c)), (.int .i64 (c)), (.int .i64 (x1.n)), (.slice none 0 0)] rfl pK rfl rfl rfl rfl rfl (ay rfl (ay rfl (ay rfl (ay rfl (ay rfl bg))))) fun w h => ah (aA (az ?_))))))))
 replace h := h.yF (R := fT) (E := 3) 17
 exact bU (4, c, x1.n, (.slice none 0 0), []) ⟨h.cn _, hs⟩
 refine ai (ag (ae (bJ rfl rfl) (ae (aj (v := (.bool (decide ((x1.kind : Int) = 6)))) rfl) (ah (aa (aN hs rfl (fun c80 hs => ?_) (fun c80 hs => ?_)))))))
 refine ag (ae (au (v := v32) rfl) (ae (ak pz rfl) (fJ h 16 [(.int .i64 (7)), (.int .i64 (c)), (.int .i64 (x1.n)), (.int .i64 (0)), (.slice none 0 0)] rfl aZ rfl rfl rfl rfl rfl fun w h => ae (ak vH rfl) (fJ h 16 [(.int .i64 (7)), (.int .i64 (c)), (.int .i64 (x1.n)), (.int .i64 (0)), v32] rfl uq rfl rfl rfl rfl (h.dJ 12 rfl).one fun w h => ah (aA (az ?_))))))
 replace h := h.Cx 12 17 rfl rfl (by decide)
 exact bU (7, x1.n, 0, v32, yR) ⟨h.cn _, hs⟩
 refine aG (aA (az ?_))
 replace h := h.yF (R := fT) (E := 3) 17
 exact bU (0, x1.n, 0, (.slice none 0 0), []) ⟨h.cn _, hs⟩
def eB (x8 : List Ins) (nK : List Ins → Option (List Ins)) (x34 : List Ins) : Option (List Ins) :=
  ib (Room 56 x8 x34) (nK (x8 ++ x34))
def nZ (x32 : List Ins) (c : Int) (d : Int) (x8 : List Ins) (zD : List Ins) (Ot : List Ins) (nK : List Ins → Option (List Ins)) (x90 : Int) : Option (List Ins) :=
  ib (Room 56 x32 [(⟨13, c, (((((d + (x8.length : Int)) + (x32.length : Int)) + 1) + (zD.length : Int)) + 1), 0, []⟩ : Ins)]) (ib (Room 56 (x32 ++ [(⟨13, c, (((((d + (x8.length : Int)) + (x32.length : Int)) + 1) + (zD.length : Int)) + 1), 0, []⟩ : Ins)]) zD) (ib (Room 56 ((x32 ++ [(⟨13, c, (((((d + (x8.length : Int)) + (x32.length : Int)) + 1) + (zD.length : Int)) + 1), 0, []⟩ : Ins)]) ++ zD) [(⟨12, 0, x90, 0, []⟩ : Ins)]) (ib (Room 56 (((x32 ++ [(⟨13, c, (((((d + (x8.length : Int)) + (x32.length : Int)) + 1) + (zD.length : Int)) + 1), 0, []⟩ : Ins)]) ++ zD) ++ [(⟨12, 0, x90, 0, []⟩ : Ins)]) Ot) (eB x8 nK ((((x32 ++ [(⟨13, c, (((((d + (x8.length : Int)) + (x32.length : Int)) + 1) + (zD.length : Int)) + 1), 0, []⟩ : Ins)]) ++ zD) ++ [(⟨12, 0, x90, 0, []⟩ : Ins)]) ++ Ot)))))
def og (F0 : List bI → List fB → Int → Int → Option (List Ins)) (d : Int) (x8 : List Ins) (x32 : List Ins) (eu : bI) (a : List bI) (b : List fB) (c : Int) (nK : List Ins → Option (List Ins)) (x69 : Bool) : Option (List Ins) :=
  bif x69 then ib (jO ((d + (x8.length : Int)) + (x32.length : Int))) (ib (jO (((d + (x8.length : Int)) + (x32.length : Int)) + 1)) ((F0 eu.a b c (((d + (x8.length : Int)) + (x32.length : Int)) + 1)).bind fun zD => ib (jO ((d + (x8.length : Int)) + (x32.length : Int))) (ib (jO (((d + (x8.length : Int)) + (x32.length : Int)) + 1)) (ib (jO ((((d + (x8.length : Int)) + (x32.length : Int)) + 1) + (zD.length : Int))) (ib (jO (((((d + (x8.length : Int)) + (x32.length : Int)) + 1) + (zD.length : Int)) + 1)) ((F0 eu.b b c (((((d + (x8.length : Int)) + (x32.length : Int)) + 1) + (zD.length : Int)) + 1)).bind fun Ot => ib (jO ((((((d + (x8.length : Int)) + (x32.length : Int)) + 1) + (zD.length : Int)) + 1) + (Ot.length : Int))) (bif decide ((eu.kind : Int) = 7) then nZ x32 c d x8 zD Ot nK (d + (x8.length : Int)) else nZ x32 c d x8 zD Ot nK ((((((d + (x8.length : Int)) + (x32.length : Int)) + 1) + (zD.length : Int)) + 1) + (Ot.length : Int))))))))) else eB x8 nK x32
def oh (N : Nat) (F0 : List bI → List fB → Int → Int → Option (List Ins)) (eu : bI) (c : Int) (x8 : List Ins) (nK : List Ins → Option (List Ins)) (b : List fB) (d : Int) (a : List bI) (x32 : List Ins) : Option (List Ins) :=
  bif decide ((eu.kind : Int) = 1) then ib (Room 56 x32 [(⟨2, eu.n, c, 0, []⟩ : Ins)]) (eB x8 nK (x32 ++ [(⟨2, eu.n, c, 0, []⟩ : Ins)])) else bif decide ((eu.kind : Int) = 2) then ib (jO (c + 1)) ((jK N eu.f b (c + 1)).bind fun yQ => ib (jO (c + 1)) (ib (Room 56 x32 yQ.1) (ib (Room 56 (x32 ++ yQ.1) [(⟨6, c, (c + 1), eu.n, []⟩ : Ins)]) (eB x8 nK ((x32 ++ yQ.1) ++ [(⟨6, c, (c + 1), eu.n, []⟩ : Ins)]))))) else bif decide ((eu.kind : Int) = 3) then ib (Room 56 x32 [(⟨9, c, 0, 0, []⟩ : Ins)]) (eB x8 nK (x32 ++ [(⟨9, c, 0, 0, []⟩ : Ins)])) else bif decide ((eu.kind : Int) = 4) then ib (Room 56 x32 [(⟨10, 0, 0, 0, []⟩ : Ins)]) (eB x8 nK (x32 ++ [(⟨10, 0, 0, 0, []⟩ : Ins)])) else bif decide ((eu.kind : Int) = 5) then ib (Room 56 x32 [(⟨11, c, 0, 0, []⟩ : Ins)]) (eB x8 nK (x32 ++ [(⟨11, c, 0, 0, []⟩ : Ins)])) else bif decide ((eu.kind : Int) = 8) then ib (Room 56 x32 [(⟨8, c, 0, 0, []⟩ : Ins)]) (eB x8 nK (x32 ++ [(⟨8, c, 0, 0, []⟩ : Ins)])) else bif decide ((eu.kind : Int) = 6) then og F0 d x8 x32 eu a b c nK (decide ((eu.kind : Int) = 6)) else og F0 d x8 x32 eu a b c nK (decide ((eu.kind : Int) = 7))
def om (N : Nat) (F0 : List bI → List fB → Int → Int → Option (List Ins)) (d : Int) (b : List fB) (c : Int) (a : List bI) (eu : bI) (x8 : List Ins) (nK : List Ins → Option (List Ins)) : Option (List Ins) :=
  ib (jO (d + (x8.length : Int))) (bif decide ((0 : Int) < (eu.e.length : Int)) then (jK N eu.e b c).bind fun y104 => oh N F0 eu c x8 nK b d a y104.1 else oh N F0 eu c x8 nK b d a [])
def oo (x8 : List Ins) : Option (List Ins) :=
  some x8
def uG (N : Nat) (F0 : List bI → List fB → Int → Int → Option (List Ins)) (a : List bI) (b : List fB) (c : Int) (d : Int) : Option (List Ins) :=
  each (om N F0 d b c a) oo a []
def lF : Nat → List bI → List fB → Int → Int → Option (List Ins)
  | 0 => fun _ _ _ _ => none
  | N + 1 => uG N (lF N)
theorem uH : ∀ (N : Nat) (w0 : World) (M : BS) (hM : ∀ b, M b → b < w0.heap.size) (va : Value) (a : List bI) (ha : gL eP w0 BE M va a) (vb : Value) (b : List fB) (hb : gL iY w0 BE M vb b) (c : Int) (d : Int) (r : List Ins) (hs : lF N a b c d = some r),
    Calls Tryz.prog 76 #[va, vb, (.int .i64 (c)), (.int .i64 (d))] w0 (fun e w' => Grow w0 w' ∧ ∃ u0, e = .returned (u0) ∧ ek jD 93 w' M u0 r ∧ (∀ b, ob u0 b → w0.heap.size ≤ b)) := by
 intro N
 induction N with
 | zero => intro w0 M hM va a ha vb b hb c d r hs; cases hs
 | succ N ih =>
 intro w0 M hM va a ha vb b hb c d r hs
 replace hs : uG N (lF N) a b c d = some r := hs
 generalize lF N = F0 at hs ih
 refine aS (args := [va, vb, (.int .i64 (c)), (.int .i64 (d))]) Tryz.func76 rfl Tryz.ntmps76 (Nat.le_of_ble_eq_true rfl) ?_
 have h := SH.init hM
 replace h := h.fI 1 ha bN
 replace h := h.fI 2 hb (dn bN)
 have uw := ha.cB
 have JM := hb.cB
 refine ai (ag (ae (aj (v := (.slice none 0 0)) rfl) (ah (aa (ai (ag (ae (aj (v := (.slice none 0 0)) rfl) (ah (aa (ai (ai (ag (ae (au (v := va) rfl) (ae (bW kM rfl (h.iI 1 rfl)) (ae (au (v := (.int .i64 (0))) rfl) (ah (aa (aU ?_))))))))))))))))))
 replace h := h.yF (R := jD) (E := 93) 6
 refine gP (σ := Nat × Int × Value × List Ins) (inl [9, 11, 12, 13, 14, 15, 16, 17, 18, 19, 22, 23, 24, 25, 26, 27, 28, 29, 30, 31, 32, 33, 34, 35, 36, 37, 38, 39, 40, 41, 42, 43, 44, 45, 46, 47, 48, 49, 50, 51, 52, 53, 54, 55, 56, 57, 58, 59, 60, 61, 62, 63, 64, 65, 66, 67, 68, 69, 70, 71, 72, 73, 74, 75, 76, 77, 78, 79, 80, 81, 82, 83, 84, 85, 86, 87, 88, 89, 90, 91, 92, 93, 94, 95, 96, 97, 98, 99, 100, 101, 102, 103, 104, 105, 106, 107, 108, 109, 110, 111, 112, 113, 114, 115, 116, 117, 118, 119, 120, 121, 122, 123, 124, 125, 126, 127, 128, 129, 130, 131, 132, 133, 134, 135, 136, 137, 138, 139, 140, 141, 142, 143, 144, 145, 146, 147, 148, 149, 150, 151, 152, 153, 154, 155]) (fun ⟨k9, i10, v7, x8⟩ => [(9, v7), (22, (.int .i64 (i10)))]) (fun ⟨k9, i10, v7, x8⟩ w => SH w0 M BE w (hset [(1, .sr eP va a), (2, .sr iY vb b), (6, .own jD 93 v7 x8)]) ∧ i10 = (k9 : Int) ∧ each (om N F0 d b c a) oo (a.drop k9) x8 = some r) (fun ⟨k9, i10, v7, x8⟩ => a.length - k9) ⟨0, 0, (.slice none 0 0), []⟩ ⟨rfl, rfl, trivial⟩ ?_ ?_
 exact ⟨h.cn _, rfl, hs⟩
 rintro ⟨k9, i10, v7, x8⟩ w dD ⟨h, hik, hs⟩
 refine ai (ag ?_)
 refine ae (dS rfl rfl) (ah (aa ?_))
 refine ai (iJ rfl (fun e14 => ?_) (fun e14 => ?_))
 refine aG (aa ?_)
 obtain ⟨eu, MH, MI⟩ := gy (hik ▸ e14)
 rw [MI, dW] at hs
 generalize Ga : each (om N F0 d b c a) oo (a.drop (k9 + 1)) = nK at hs
 have MJ := gD ((h.iI 1 rfl)).cB hik e14
 refine ai (aU (ai (ag ?_)))
 obtain ⟨b17, o18, UA, h, RO, i16⟩ := h.xD 1 7 rfl kM rfl (iU hik) (gB hik MH)
 obtain ⟨u21, u23, u25, u27, rfl, g22, g24, ZB, g28⟩ := yI RO
 replace h := h.di 8 g22.up
 replace h := h.di 9 g24.up.up
 replace h := h.di 10 ZB.up.up.up
 replace h := h.di 11 g28.up.up.up.up
 refine ae (i16 _ _ _ _ _ _ _ _ _ rfl rfl) (ae (jg (k := 0) (vs := [(.int .i64 (eu.kind)), (.int .i64 (eu.n)), u21, u23, u25, u27]) h 7 rfl nQ rfl rfl rfl (Nat.le_of_ble_eq_true rfl)) (bY h 12 nQ fun w b29 h => dB (vs := [(.int .i64 (eu.kind)), (.int .i64 (eu.n)), u21, u23, u25, u27]) h 12 [(.int .i64 (eu.kind)), (.int .i64 (eu.n)), u21, u23, u25, u27] rfl nQ rfl rfl rfl rfl rfl (ay rfl (ay rfl (ay (h.iq 8 rfl).one (ay (h.iq 9 rfl).one (ay (h.iq 10 rfl).one (ay (h.iq 11 rfl).one bg)))))) fun w h => ah (aa (ai (ag (ae (au (v := (.int .i64 (d))) rfl) (ae (au (v := v7) rfl) (ae (bW jA rfl (h.eF 6 rfl)) ?_))))))))
 obtain ⟨a30, hs⟩ := bM hs
 refine ae (dH rfl rfl a30) (ae (aj (v := (.int .i64 ((d + (x8.length : Int))))) rfl) (ah (aa (ai (ag (ae (aj (v := (.slice none 0 0)) rfl) (ah (aa (cz (σ := Value × List Ins) (inl [13, 30, 31, 32, 33, 34, 35, 36, 37, 38, 39, 40, 41]) (fun ⟨v31, x32⟩ => [(13, v31)]) (fun ⟨v31, x32⟩ w => SH w0 M BE w (hset [(1, .sr eP va a), (2, .sr iY vb b), (6, .own jD 93 v7 x8), (8, .rd ku u21 eu.e), (9, .rd ku u23 eu.f), (10, .rd eP u25 eu.a), (11, .rd eP u27 eu.b), (12, .blk b29 [(.int .i64 (eu.kind)), (.int .i64 (eu.n)), u21, u23, u25, u27]), (13, .own jD 93 v31 x32)]) ∧ oh N F0 eu c x8 nK b d a x32 = some r) ?_ ?_)))))))))
 rintro ⟨v31, x32⟩ w dD ⟨h, hs⟩
 refine cz (σ := Value × List Ins) (inl [13, 14, 15, 16, 17, 18, 19, 42, 43, 44, 45, 46, 47, 48, 49, 50, 51, 52, 53, 54, 55, 56, 57, 58, 59, 60, 61, 62, 63, 64, 65, 66, 67, 68, 69, 70, 71, 72, 73, 74, 75, 76, 77, 78, 79, 80, 81, 82, 83, 84, 85, 86, 87, 88, 89, 90, 91, 92, 93, 94, 95, 96, 97, 98, 99, 100, 101, 102, 103, 104, 105, 106, 107, 108, 109, 110, 111, 112, 113, 114, 115, 116, 117, 118, 119, 120, 121, 122, 123, 124, 125, 126, 127, 128, 129, 130, 131, 132, 133, 134, 135, 136, 137, 138, 139, 140, 141, 142, 143, 144, 145, 146, 147, 148, 149, 150, 151]) (fun ⟨v33, x34⟩ => [(13, v33)]) (fun ⟨v33, x34⟩ w => SH w0 M BE w (hset [(1, .sr eP va a), (2, .sr iY vb b), (6, .own jD 93 v7 x8), (13, .own jD 93 v33 x34)]) ∧ eB x8 nK x34 = some r) ?_ ?_
 rintro ⟨v33, x34⟩ w dD ⟨h, hs⟩
 refine ag (ae (au (v := v7) rfl) (ae (au (v := v33) rfl) ?_))
 obtain ⟨a35, hs⟩ := bM hs
 refine mO (R := jD) (m := x34) h 6 rfl (h.eF 13 rfl) fu rfl rfl rfl a35.1 a35.2 fun w u36 h => ae (aj (v := u36) rfl) (ah (aA (aa (ag (ae (dH rfl rfl MJ) (ae (au (v := (.int .i64 ((i10 + 1)))) rfl) (ah (az ?_))))))))
 subst Ga
 exact jN ⟨k9 + 1, i10 + 1, u36, (x8 ++ x34)⟩ ⟨h.cn _, by omega, hs⟩ (by have := of_decide_eq_true e14; dsimp only; omega)
 refine ai (ag (ae (ak jP rfl) (ae (aD h 12 rfl aZ rfl rfl) (ah (aa (aU (ai (ag (ae (bJ rfl rfl) (ae (aj (v := (.bool (decide ((eu.kind : Int) = 1)))) rfl) (ah (aa (aN hs rfl (fun c37 hs => ?_) (fun c37 hs => ?_))))))))))))))
 refine ag (ae (au (v := v31) rfl) (ae (ak uo rfl) (ae (aD h 12 rfl aZ rfl rfl) (ae (au (v := (.int .i64 (c))) rfl) (ae (dV (pv := [(0, (.int .i64 (2))), (1, (.int .i64 (eu.n))), (2, (.int .i64 (c)))]) (out := [(.int .i64 (2)), (.int .i64 (eu.n)), (.int .i64 (c)), (.int .i64 (0)), (.slice none 0 0)]) mh rfl ⟨0, 1, [(.int .i64 (2))], rfl, rfl, rfl, Nat.le_of_ble_eq_true rfl, ⟨1, 1, [(.int .i64 (eu.n))], rfl, rfl, rfl, Nat.le_of_ble_eq_true rfl, ⟨2, 1, [(.int .i64 (c))], rfl, rfl, rfl, Nat.le_of_ble_eq_true rfl, rfl⟩⟩⟩) (tJ (R := jD) (vs := [(.agg #[(.int .i64 (2)), (.int .i64 (eu.n)), (.int .i64 (c)), (.int .i64 (0)), (.slice none 0 0)])]) (xs := [(⟨2, eu.n, c, 0, []⟩ : Ins)]) h 14 fu rfl rfl rfl ⟨⟨_, rfl, gL.nil⟩, trivial⟩ rfl fun w u38 h => ?_))))))
 obtain ⟨a39, hs⟩ := bM hs
 refine mO (R := jD) (m := [(⟨2, eu.n, c, 0, []⟩ : Ins)]) h 13 rfl (h.eF 14 rfl) fu rfl rfl rfl a39.1 a39.2 fun w u40 h => ae (aj (v := u40) rfl) (ah (aA (az ?_)))
 exact bU (u40, (x32 ++ [(⟨2, eu.n, c, 0, []⟩ : Ins)])) ⟨h.cn _, hs⟩
 refine ai (ag (ae (bJ rfl rfl) (ae (aj (v := (.bool (decide ((eu.kind : Int) = 2)))) rfl) (ah (aa (aN hs rfl (fun WS hs => ?_) (fun WS hs => ?_)))))))
 refine ai (ag (ae (ak zO rfl) (ae (aD h 12 rfl vZ rfl rfl) (ae (au (v := vb) rfl) (ae (au (v := (.int .i64 (c))) rfl) ?_)))))
 obtain ⟨a42, hs⟩ := bM hs
 refine ae (dH rfl rfl a42) ?_
 obtain ⟨yQ, e44, hs⟩ := aQ hs
 refine bA JC rfl rfl (uF N _ _ h.lt u23 eu.f (h.mH 9 rfl) vb b (h.iI 2 rfl) (c + 1) _ e44) ?_
 rintro _ w ⟨k48, u45, rfl, g46, g47⟩
 refine ⟨_, rfl, ?_⟩
 replace h := h.kJ 15 k48 g46 g47
 refine ae (au (v := (.tuple #[u45, (.int .i64 (yQ.2))])) rfl) (ae (bF rfl rfl) (ae (bF rfl rfl) (ae (aj (v := u45) rfl) (ae (aj (v := (.int .i64 (yQ.2))) rfl) (ah (aa (mf (L := (ob v31)) mixed h fun w h => bu 0 (aL.refl _ _) rfl ax (by kernel_rfl) (by kernel_rfl) (by kernel_rfl) (fun w hk => au (v := v31) rfl) (bu 1 (aL.refl _ _) rfl ax (by kernel_rfl) (by kernel_rfl) (by kernel_rfl) (fun w hk => au (v := u45) rfl) (bu 3 (aL.refl _ _) rfl ax (by kernel_rfl) (by kernel_rfl) (by kernel_rfl) (fun w hk => au (v := (.int .i64 (c))) rfl) (bu 4 (aL.refl _ _) rfl ax (by kernel_rfl) (by kernel_rfl) (by kernel_rfl) (fun w hk => au (v := (.int .i64 (c))) rfl) ?_))))))))))
 obtain ⟨Sb, hs⟩ := bM hs
 refine bu 5 (aL.refl _ _) rfl ax (by kernel_rfl) (by kernel_rfl) (by kernel_rfl) (fun w hk => dH rfl rfl Sb) (bu 6 (aL.refl _ _) rfl ax (by kernel_rfl) (by kernel_rfl) (by kernel_rfl) (fun w hk => ak uo rfl) (bu 7 (aL.refl _ _) rfl ax (by kernel_rfl) (by kernel_rfl) (by kernel_rfl) (fun w hk => have h := h.qJ 13 rfl hk; aD h 12 rfl aZ rfl rfl) (bu 8 (aL.refl _ _) rfl ax (by kernel_rfl) (by kernel_rfl) (by kernel_rfl) (fun w hk => dV (pv := [(0, (.int .i64 (6))), (1, (.int .i64 (c))), (2, (.int .i64 ((c + 1)))), (3, (.int .i64 (eu.n)))]) (out := [(.int .i64 (6)), (.int .i64 (c)), (.int .i64 ((c + 1))), (.int .i64 (eu.n)), (.slice none 0 0)]) mh rfl ⟨0, 1, [(.int .i64 (6))], rfl, rfl, rfl, Nat.le_of_ble_eq_true rfl, ⟨1, 1, [(.int .i64 (c))], rfl, rfl, rfl, Nat.le_of_ble_eq_true rfl, ⟨2, 1, [(.int .i64 ((c + 1)))], rfl, rfl, rfl, Nat.le_of_ble_eq_true rfl, ⟨3, 1, [(.int .i64 (eu.n))], rfl, rfl, rfl, Nat.le_of_ble_eq_true rfl, rfl⟩⟩⟩⟩) ?_)))
 obtain ⟨CS, hs⟩ := bM hs
 obtain ⟨AO, hs⟩ := bM hs
 obtain ⟨M6, Vv⟩ : ∃ x, x = w := ⟨_, rfl⟩
 have rP : aL (ob v31) M6 w := Vv ▸ aL.refl (ob v31) w
 refine rW Vv.symm (oF 2 9 (by kernel_rfl) rfl ax rfl ax ?_ ?_)
 have PI := rP.size
 refine pg (R := jD) (m := yQ.1) h 13 rfl (h.eF 15 rfl) fu rfl rfl rfl CS.1 CS.2 fun w Gg h DR DT => ?_
 have xX : ∀ b, ob Gg b → b < M6.heap.size → ob v31 b := fun b hb hl => DT b hb (Nat.lt_of_lt_of_le hl (rP).size)
 replace rP := rP.same DR
 refine ah (aX rP (bS 9 (by kernel_rfl) rfl ax (zk (R := jD) (vs := [(.agg #[(.int .i64 (6)), (.int .i64 (c)), (.int .i64 ((c + 1))), (.int .i64 (eu.n)), (.slice none 0 0)])]) (xs := [(⟨6, c, (c + 1), eu.n, []⟩ : Ins)]) h 124 fu rfl rfl rfl ⟨⟨_, rfl, gL.nil⟩, trivial⟩ rfl fun w Gh h DU DV => ?_)))
 have PK : ∀ b, ob Gh b → M6.heap.size ≤ b := fun b hb => Nat.le_trans rP.size (DV b hb)
 replace rP := rP.grow DU
 refine ah (aX rP (bS 10 (by kernel_rfl) rfl ax ?_))
 have M7 := rP.size
 refine pg (R := jD) (m := [(⟨6, c, (c + 1), eu.n, []⟩ : Ins)]) h 13 rfl (h.eF 124 rfl) fu rfl rfl rfl AO.1 AO.2 fun w tK h BF BG => ?_
 have M8 : ∀ b, ob tK b → b < M6.heap.size → ob v31 b := fun b hb hl => xX b (BG b hb (Nat.lt_of_lt_of_le hl (rP).size)) hl
 replace rP := aL.step rP BF (fun x hx hl => xX x hx hl)
 refine ah (aX rP (bu 11 rP rfl ax (by kernel_rfl) (by kernel_rfl) (by kernel_rfl) (fun w hk => aj (v := tK) rfl) (gJ (by kernel_rfl) (aA (az ?_)))))
 exact bU (tK, ((x32 ++ yQ.1) ++ [(⟨6, c, (c + 1), eu.n, []⟩ : Ins)])) ⟨h.cn _, hs⟩
 refine zk (R := jD) (vs := [(.agg #[(.int .i64 (6)), (.int .i64 (c)), (.int .i64 ((c + 1))), (.int .i64 (eu.n)), (.slice none 0 0)])]) (xs := [(⟨6, c, (c + 1), eu.n, []⟩ : Ins)]) h 124 fu rfl rfl rfl ⟨⟨_, rfl, gL.nil⟩, trivial⟩ rfl fun w Gh h DU DV => ?_
 have PK : ∀ b, ob Gh b → M6.heap.size ≤ b := fun b hb => Nat.le_trans rP.size (DV b hb)
 replace rP := rP.grow DU
 refine ah (aX rP (bS 2 (by kernel_rfl) rfl ax ?_))
 have PI := rP.size
 refine pg (R := jD) (m := yQ.1) h 13 rfl (h.eF 15 rfl) fu rfl rfl rfl CS.1 CS.2 fun w Gg h DR DT => ?_
 have xX : ∀ b, ob Gg b → b < M6.heap.size → ob v31 b := fun b hb hl => DT b hb (Nat.lt_of_lt_of_le hl (rP).size)
 replace rP := rP.same DR
 refine ah (aX rP (bS 10 (by kernel_rfl) rfl ax ?_))
 have M7 := rP.size
 refine pg (R := jD) (m := [(⟨6, c, (c + 1), eu.n, []⟩ : Ins)]) h 13 rfl (h.eF 124 rfl) fu rfl rfl rfl AO.1 AO.2 fun w tK h BF BG => ?_
 have M8 : ∀ b, ob tK b → b < M6.heap.size → ob v31 b := fun b hb hl => xX b (BG b hb (Nat.lt_of_lt_of_le hl (rP).size)) hl
 replace rP := aL.step rP BF (fun x hx hl => xX x hx hl)
 refine ah (aX rP (bu 11 rP rfl ax (by kernel_rfl) (by kernel_rfl) (by kernel_rfl) (fun w hk => aj (v := tK) rfl) (gJ (by kernel_rfl) (aA (az ?_)))))
 exact bU (tK, ((x32 ++ yQ.1) ++ [(⟨6, c, (c + 1), eu.n, []⟩ : Ins)])) ⟨h.cn _, hs⟩
 refine ai (ag (ae (bJ rfl rfl) (ae (aj (v := (.bool (decide ((eu.kind : Int) = 3)))) rfl) (ah (aa (aN hs rfl (fun c53 hs => ?_) (fun c53 hs => ?_)))))))
 refine ag (ae (au (v := v31) rfl) (ae (au (v := (.int .i64 (c))) rfl) (ae (dV (pv := [(0, (.int .i64 (9))), (1, (.int .i64 (c)))]) (out := [(.int .i64 (9)), (.int .i64 (c)), (.int .i64 (0)), (.int .i64 (0)), (.slice none 0 0)]) mh rfl ⟨0, 1, [(.int .i64 (9))], rfl, rfl, rfl, Nat.le_of_ble_eq_true rfl, ⟨1, 1, [(.int .i64 (c))], rfl, rfl, rfl, Nat.le_of_ble_eq_true rfl, rfl⟩⟩) (tJ (R := jD) (vs := [(.agg #[(.int .i64 (9)), (.int .i64 (c)), (.int .i64 (0)), (.int .i64 (0)), (.slice none 0 0)])]) (xs := [(⟨9, c, 0, 0, []⟩ : Ins)]) h 172 fu rfl rfl rfl ⟨⟨_, rfl, gL.nil⟩, trivial⟩ rfl fun w R6 h => ?_))))
 obtain ⟨a55, hs⟩ := bM hs
 refine mO (R := jD) (m := [(⟨9, c, 0, 0, []⟩ : Ins)]) h 13 rfl (h.eF 172 rfl) fu rfl rfl rfl a55.1 a55.2 fun w u56 h => ae (aj (v := u56) rfl) (ah (aA (az ?_)))
 exact bU (u56, (x32 ++ [(⟨9, c, 0, 0, []⟩ : Ins)])) ⟨h.cn _, hs⟩
 refine ai (ag (ae (bJ rfl rfl) (ae (aj (v := (.bool (decide ((eu.kind : Int) = 4)))) rfl) (ah (aa (aN hs rfl (fun c57 hs => ?_) (fun c57 hs => ?_)))))))
 refine ag (ae (au (v := v31) rfl) (ae (dV (pv := [(0, (.int .i64 (10)))]) (out := [(.int .i64 (10)), (.int .i64 (0)), (.int .i64 (0)), (.int .i64 (0)), (.slice none 0 0)]) mh rfl ⟨0, 1, [(.int .i64 (10))], rfl, rfl, rfl, Nat.le_of_ble_eq_true rfl, rfl⟩) (tJ (R := jD) (vs := [(.agg #[(.int .i64 (10)), (.int .i64 (0)), (.int .i64 (0)), (.int .i64 (0)), (.slice none 0 0)])]) (xs := [(⟨10, 0, 0, 0, []⟩ : Ins)]) h 173 fu rfl rfl rfl ⟨⟨_, rfl, gL.nil⟩, trivial⟩ rfl fun w u58 h => ?_)))
 obtain ⟨a59, hs⟩ := bM hs
 refine mO (R := jD) (m := [(⟨10, 0, 0, 0, []⟩ : Ins)]) h 13 rfl (h.eF 173 rfl) fu rfl rfl rfl a59.1 a59.2 fun w u60 h => ae (aj (v := u60) rfl) (ah (aA (az ?_)))
 exact bU (u60, (x32 ++ [(⟨10, 0, 0, 0, []⟩ : Ins)])) ⟨h.cn _, hs⟩
 refine ai (ag (ae (bJ rfl rfl) (ae (aj (v := (.bool (decide ((eu.kind : Int) = 5)))) rfl) (ah (aa (aN hs rfl (fun c61 hs => ?_) (fun c61 hs => ?_)))))))
 refine ag (ae (au (v := v31) rfl) (ae (au (v := (.int .i64 (c))) rfl) (ae (dV (pv := [(0, (.int .i64 (11))), (1, (.int .i64 (c)))]) (out := [(.int .i64 (11)), (.int .i64 (c)), (.int .i64 (0)), (.int .i64 (0)), (.slice none 0 0)]) mh rfl ⟨0, 1, [(.int .i64 (11))], rfl, rfl, rfl, Nat.le_of_ble_eq_true rfl, ⟨1, 1, [(.int .i64 (c))], rfl, rfl, rfl, Nat.le_of_ble_eq_true rfl, rfl⟩⟩) (tJ (R := jD) (vs := [(.agg #[(.int .i64 (11)), (.int .i64 (c)), (.int .i64 (0)), (.int .i64 (0)), (.slice none 0 0)])]) (xs := [(⟨11, c, 0, 0, []⟩ : Ins)]) h 174 fu rfl rfl rfl ⟨⟨_, rfl, gL.nil⟩, trivial⟩ rfl fun w X6 h => ?_))))
 obtain ⟨a63, hs⟩ := bM hs
 refine mO (R := jD) (m := [(⟨11, c, 0, 0, []⟩ : Ins)]) h 13 rfl (h.eF 174 rfl) fu rfl rfl rfl a63.1 a63.2 fun w u64 h => ae (aj (v := u64) rfl) (ah (aA (az ?_)))
 exact bU (u64, (x32 ++ [(⟨11, c, 0, 0, []⟩ : Ins)])) ⟨h.cn _, hs⟩
 refine ai (ag (ae (bJ rfl rfl) (ae (aj (v := (.bool (decide ((eu.kind : Int) = 8)))) rfl) (ah (aa (aN hs rfl (fun Bf hs => ?_) (fun Bf hs => ?_)))))))
 refine ag (ae (au (v := v31) rfl) (ae (au (v := (.int .i64 (c))) rfl) (ae (dV (pv := [(0, (.int .i64 (8))), (1, (.int .i64 (c)))]) (out := [(.int .i64 (8)), (.int .i64 (c)), (.int .i64 (0)), (.int .i64 (0)), (.slice none 0 0)]) mh rfl ⟨0, 1, [(.int .i64 (8))], rfl, rfl, rfl, Nat.le_of_ble_eq_true rfl, ⟨1, 1, [(.int .i64 (c))], rfl, rfl, rfl, Nat.le_of_ble_eq_true rfl, rfl⟩⟩) (tJ (R := jD) (vs := [(.agg #[(.int .i64 (8)), (.int .i64 (c)), (.int .i64 (0)), (.int .i64 (0)), (.slice none 0 0)])]) (xs := [(⟨8, c, 0, 0, []⟩ : Ins)]) h 175 fu rfl rfl rfl ⟨⟨_, rfl, gL.nil⟩, trivial⟩ rfl fun w u66 h => ?_))))
 obtain ⟨a67, hs⟩ := bM hs
 refine mO (R := jD) (m := [(⟨8, c, 0, 0, []⟩ : Ins)]) h 13 rfl (h.eF 175 rfl) fu rfl rfl rfl a67.1 a67.2 fun w u68 h => ae (aj (v := u68) rfl) (ah (aA (az ?_)))
 exact bU (u68, (x32 ++ [(⟨8, c, 0, 0, []⟩ : Ins)])) ⟨h.cn _, hs⟩
 refine cz (σ := Bool) (inl [102, 103, 104]) (fun x69 => [(102, (.bool (x69)))]) (fun x69 w => SH w0 M BE w (hset [(1, .sr eP va a), (2, .sr iY vb b), (6, .own jD 93 v7 x8), (8, .rd ku u21 eu.e), (9, .rd ku u23 eu.f), (10, .rd eP u25 eu.a), (11, .rd eP u27 eu.b), (12, .blk b29 [(.int .i64 (eu.kind)), (.int .i64 (eu.n)), u21, u23, u25, u27]), (13, .own jD 93 v31 x32)]) ∧ og F0 d x8 x32 eu a b c nK x69 = some r) ?_ ?_
 rintro x69 w dD ⟨h, hs⟩
 refine aN hs rfl (fun c70 hs => ?_) (fun c70 hs => ?_)
 refine ai (ag (ae (ak xM rfl) (ae (aD h 12 rfl oN rfl rfl) (ae (au (v := vb) rfl) (ae (au (v := (.int .i64 (c))) rfl) (ae (au (v := (.int .i64 ((d + (x8.length : Int))))) rfl) (ae (au (v := v31) rfl) (ae (bW jA rfl (h.eF 13 rfl)) ?_))))))))
 obtain ⟨a71, hs⟩ := bM hs
 refine ae (dH rfl rfl a71) ?_
 obtain ⟨a72, hs⟩ := bM hs
 refine ae (dH rfl rfl a72) ?_
 obtain ⟨zD, e74, hs⟩ := aQ hs
 refine bA JJ rfl rfl (ih _ _ h.lt u25 eu.a (h.mH 10 rfl) vb b (h.iI 2 rfl) c (((d + (x8.length : Int)) + (x32.length : Int)) + 1) _ e74) ?_
 rintro _ w ⟨k78, u75, rfl, g76, g77⟩
 refine ⟨_, rfl, ?_⟩
 replace h := h.kJ 176 k78 g76 g77
 refine ae (aj (v := u75) rfl) (ah (aa (ai (ag (ae (au (v := (.int .i64 ((d + (x8.length : Int))))) rfl) (ae (au (v := v31) rfl) (ae (bW jA rfl (h.eF 13 rfl)) ?_)))))))
 obtain ⟨a79, hs⟩ := bM hs
 refine ae (dH rfl rfl a79) ?_
 obtain ⟨a80, hs⟩ := bM hs
 refine ae (dH rfl rfl a80) (ae (au (v := u75) rfl) (ae (bW jA rfl (h.eF 176 rfl)) ?_))
 obtain ⟨a81, hs⟩ := bM hs
 refine ae (dH rfl rfl a81) ?_
 obtain ⟨a82, hs⟩ := bM hs
 refine ae (dH rfl rfl a82) (ae (aj (v := (.int .i64 ((((((d + (x8.length : Int)) + (x32.length : Int)) + 1) + (zD.length : Int)) + 1)))) rfl) (ah (aa (ai (ag (ae (ak xN rfl) (ae (aD h 12 rfl oN rfl rfl) (ae (au (v := vb) rfl) (ae (au (v := (.int .i64 (c))) rfl) (ae (au (v := (.int .i64 ((((((d + (x8.length : Int)) + (x32.length : Int)) + 1) + (zD.length : Int)) + 1)))) rfl) ?_))))))))))
 obtain ⟨Ot, e84, hs⟩ := aQ hs
 refine bA JJ rfl rfl (ih _ _ h.lt u27 eu.b (h.mH 11 rfl) vb b (h.iI 2 rfl) c (((((d + (x8.length : Int)) + (x32.length : Int)) + 1) + (zD.length : Int)) + 1) _ e84) ?_
 rintro _ w ⟨k88, u85, rfl, g86, g87⟩
 refine ⟨_, rfl, ?_⟩
 replace h := h.kJ 177 k88 g86 g87
 refine ae (aj (v := u85) rfl) (ah (aa (ai (ag (ae (au (v := (.int .i64 ((((((d + (x8.length : Int)) + (x32.length : Int)) + 1) + (zD.length : Int)) + 1)))) rfl) (ae (au (v := u85) rfl) (ae (bW jA rfl (h.eF 177 rfl)) ?_)))))))
 obtain ⟨a89, hs⟩ := bM hs
 refine ae (dH rfl rfl a89) (ae (aj (v := (.int .i64 (((((((d + (x8.length : Int)) + (x32.length : Int)) + 1) + (zD.length : Int)) + 1) + (Ot.length : Int))))) rfl) (ah (aa (cz (σ := Int) (inl [19, 134, 135, 136, 137]) (fun x90 => [(19, (.int .i64 (x90)))]) (fun x90 w => SH w0 M BE w (hset [(1, .sr eP va a), (2, .sr iY vb b), (6, .own jD 93 v7 x8), (13, .own jD 93 v31 x32), (176, .own jD 93 u75 zD), (177, .own jD 93 u85 Ot)]) ∧ nZ x32 c d x8 zD Ot nK x90 = some r) ?_ ?_))))
 rintro x90 w dD ⟨h, hs⟩
 refine ag (ae (au (v := v31) rfl) (ae (au (v := (.int .i64 (c))) rfl) (ae (au (v := (.int .i64 ((((((d + (x8.length : Int)) + (x32.length : Int)) + 1) + (zD.length : Int)) + 1)))) rfl) (ae (dV (pv := [(0, (.int .i64 (13))), (1, (.int .i64 (c))), (2, (.int .i64 ((((((d + (x8.length : Int)) + (x32.length : Int)) + 1) + (zD.length : Int)) + 1))))]) (out := [(.int .i64 (13)), (.int .i64 (c)), (.int .i64 ((((((d + (x8.length : Int)) + (x32.length : Int)) + 1) + (zD.length : Int)) + 1))), (.int .i64 (0)), (.slice none 0 0)]) mh rfl ⟨0, 1, [(.int .i64 (13))], rfl, rfl, rfl, Nat.le_of_ble_eq_true rfl, ⟨1, 1, [(.int .i64 (c))], rfl, rfl, rfl, Nat.le_of_ble_eq_true rfl, ⟨2, 1, [(.int .i64 ((((((d + (x8.length : Int)) + (x32.length : Int)) + 1) + (zD.length : Int)) + 1)))], rfl, rfl, rfl, Nat.le_of_ble_eq_true rfl, rfl⟩⟩⟩) (tJ (R := jD) (vs := [(.agg #[(.int .i64 (13)), (.int .i64 (c)), (.int .i64 ((((((d + (x8.length : Int)) + (x32.length : Int)) + 1) + (zD.length : Int)) + 1))), (.int .i64 (0)), (.slice none 0 0)])]) (xs := [(⟨13, c, (((((d + (x8.length : Int)) + (x32.length : Int)) + 1) + (zD.length : Int)) + 1), 0, []⟩ : Ins)]) h 178 fu rfl rfl rfl ⟨⟨_, rfl, gL.nil⟩, trivial⟩ rfl fun w Xb h => ?_)))))
 obtain ⟨a92, hs⟩ := bM hs
 refine mO (R := jD) (m := [(⟨13, c, (((((d + (x8.length : Int)) + (x32.length : Int)) + 1) + (zD.length : Int)) + 1), 0, []⟩ : Ins)]) h 13 rfl (h.eF 178 rfl) fu rfl rfl rfl a92.1 a92.2 fun w u93 h => ae (au (v := u75) rfl) ?_
 obtain ⟨a94, hs⟩ := bM hs
 refine mO (R := jD) (m := zD) h 13 rfl (h.eF 176 rfl) fu rfl rfl rfl a94.1 a94.2 fun w u95 h => ae (au (v := (.int .i64 (x90))) rfl) (ae (dV (pv := [(0, (.int .i64 (12))), (2, (.int .i64 (x90)))]) (out := [(.int .i64 (12)), (.int .i64 (0)), (.int .i64 (x90)), (.int .i64 (0)), (.slice none 0 0)]) mh rfl ⟨0, 1, [(.int .i64 (12))], rfl, rfl, rfl, Nat.le_of_ble_eq_true rfl, ⟨2, 1, [(.int .i64 (x90))], rfl, rfl, rfl, Nat.le_of_ble_eq_true rfl, rfl⟩⟩) (tJ (R := jD) (vs := [(.agg #[(.int .i64 (12)), (.int .i64 (0)), (.int .i64 (x90)), (.int .i64 (0)), (.slice none 0 0)])]) (xs := [(⟨12, 0, x90, 0, []⟩ : Ins)]) h 179 fu rfl rfl rfl ⟨⟨_, rfl, gL.nil⟩, trivial⟩ rfl fun w u96 h => ?_))
 obtain ⟨a97, hs⟩ := bM hs
 refine mO (R := jD) (m := [(⟨12, 0, x90, 0, []⟩ : Ins)]) h 13 rfl (h.eF 179 rfl) fu rfl rfl rfl a97.1 a97.2 fun w u98 h => ae (au (v := u85) rfl) ?_
 obtain ⟨a99, hs⟩ := bM hs
 refine mO (R := jD) (m := Ot) h 13 rfl (h.eF 177 rfl) fu rfl rfl rfl a99.1 a99.2 fun w WT h => ae (aj (v := WT) rfl) (ah (aA (az ?_)))
 exact bU (WT, ((((x32 ++ [(⟨13, c, (((((d + (x8.length : Int)) + (x32.length : Int)) + 1) + (zD.length : Int)) + 1), 0, []⟩ : Ins)]) ++ zD) ++ [(⟨12, 0, x90, 0, []⟩ : Ins)]) ++ Ot)) ⟨h.cn _, hs⟩
 refine ai (ag (ae (ak jP rfl) (ae (aD h 12 rfl aZ rfl rfl) (ae (bJ rfl rfl) (ah (aa (aN hs rfl (fun c101 hs => ?_) (fun c101 hs => ?_))))))))
 refine ag (ae (au (v := (.int .i64 ((d + (x8.length : Int))))) rfl) (ae (aj (v := (.int .i64 ((d + (x8.length : Int))))) rfl) (ah (az ?_))))
 exact bU (d + (x8.length : Int)) ⟨h.cn _, hs⟩
 refine aG (az ?_)
 exact bU ((((((d + (x8.length : Int)) + (x32.length : Int)) + 1) + (zD.length : Int)) + 1) + (Ot.length : Int)) ⟨h.cn _, hs⟩
 refine aG (aA (az ?_))
 exact bU (v31, x32) ⟨h.cn _, hs⟩
 refine ai (ag (ae (bJ rfl rfl) (ae (aj (v := (.bool (decide ((eu.kind : Int) = 6)))) rfl) (ah (aa (aN hs rfl (fun R3 hs => ?_) (fun R3 hs => ?_)))))))
 refine aG (az ?_)
 exact bU (decide ((eu.kind : Int) = 6)) ⟨h.cn _, hs⟩
 refine ag (ae (bJ rfl rfl) (ae (aj (v := (.bool (decide ((eu.kind : Int) = 7)))) rfl) (ah (az ?_))))
 exact bU (decide ((eu.kind : Int) = 7)) ⟨h.cn _, hs⟩
 refine ai (ag (ae (ak xL rfl) (ae (aD h 12 rfl vZ rfl rfl) (ae (bW j5 rfl (h.mH 8 rfl)) (ae (j6 rfl rfl) (ah (aa (aN hs rfl (fun Xh hs => ?_) (fun Xh hs => ?_)))))))))
 refine ag (ae (ak xL rfl) (ae (aD h 12 rfl vZ rfl rfl) (ae (au (v := vb) rfl) (ae (au (v := (.int .i64 (c))) rfl) ?_))))
 obtain ⟨y104, JU, hs⟩ := aQ hs
 refine bA JC rfl rfl (uF N _ _ h.lt u21 eu.e (h.mH 8 rfl) vb b (h.iI 2 rfl) c _ JU) ?_
 rintro _ w ⟨k109, R4, rfl, Zo, g108⟩
 refine ⟨_, rfl, ?_⟩
 replace h := h.kJ 180 k109 Zo g108
 refine ae (au (v := (.tuple #[R4, (.int .i64 (y104.2))])) rfl) (ae (bF rfl rfl) (ae (bF rfl rfl) (ae (aj (v := R4) rfl) (ah (az ?_)))))
 replace h := h.Cx 180 13 rfl rfl (by decide)
 exact bU (R4, y104.1) ⟨h.cn _, hs⟩
 refine aG (az ?_)
 replace h := h.yF (R := jD) (E := 93) 13
 exact bU ((.slice none 0 0), []) ⟨h.cn _, hs⟩
 rw [gz (hik ▸ e14), iw] at hs
 refine dh (aO (aO (bE (aa (ai (ag (ae (au (v := v7) rfl) (ae (aj (v := v7) rfl) (ah (aa (aK (cu (v := v7) Tryz.results76 rfl ?_))))))))))))
 obtain rfl := Option.some.inj hs
 exact ⟨h.grown, _, rfl, (h.mP 6 rfl).1, (h.mP 6 rfl).2⟩
def tF (x8 : List dx) (eu : fB) (nK : List dx → Option (List dx)) (Kj : List Ins) : Option (List dx) :=
  ib (Room 40 x8 [(⟨eu.params, 30, Kj⟩ : dx)]) (nK (x8 ++ [(⟨eu.params, 30, Kj⟩ : dx)]))
def oU (N : Nat) (a : List fB) (eu : fB) (x8 : List dx) (nK : List dx → Option (List dx)) : Option (List dx) :=
  (lF N eu.body a eu.locals 0).bind fun zQ => ib (Room 56 zQ [(⟨1, eu.locals, 0, 0, []⟩ : Ins), (⟨8, eu.locals, 0, 0, []⟩ : Ins)]) (tF x8 eu nK (zQ ++ [(⟨1, eu.locals, 0, 0, []⟩ : Ins), (⟨8, eu.locals, 0, 0, []⟩ : Ins)]))
def oV (x8 : List dx) : Option (List dx) :=
  some x8
def wX (N : Nat) (a : List fB) : Option (List dx) :=
  each (oU N a) oV a []
theorem Bg (N : Nat) (w0 : World) (M : BS) (hM : ∀ b, M b → b < w0.heap.size) (va : Value) (a : List fB) (ha : gL iY w0 BE M va a) (r : List dx) (hs : wX N a = some r) :
    Calls Tryz.prog 39 #[va] w0 (fun e w' => Grow w0 w' ∧ ∃ u0, e = .returned (u0) ∧ ek kF 57 w' M u0 r ∧ (∀ b, ob u0 b → w0.heap.size ≤ b)) := by
 refine aS (args := [va]) Tryz.func39 rfl Tryz.ntmps39 (Nat.le_of_ble_eq_true rfl) ?_
 have h := SH.init hM
 replace h := h.fI 1 ha bN
 have uw := ha.cB
 refine ai (ag (ae (aj (v := (.slice none 0 0)) rfl) (ah (aa (ai (ag (ae (aj (v := (.slice none 0 0)) rfl) (ah (aa (ai (ai (ag (ae (au (v := va) rfl) (ae (bW iM rfl (h.iI 1 rfl)) (ae (au (v := (.int .i64 (0))) rfl) (ah (aa (aU ?_))))))))))))))))))
 replace h := h.yF (R := kF) (E := 57) 5
 refine gP (σ := Nat × Int × Value × List dx) (inl [3, 5, 6, 9, 10, 11, 12, 13, 14, 15, 16, 17, 18, 19, 20, 21, 22, 23, 24, 25, 26, 27, 28, 29, 30, 31, 32, 33, 34, 35]) (fun ⟨k9, i10, v7, x8⟩ => [(3, v7), (9, (.int .i64 (i10)))]) (fun ⟨k9, i10, v7, x8⟩ w => SH w0 M BE w (hset [(1, .sr iY va a), (5, .own kF 57 v7 x8)]) ∧ i10 = (k9 : Int) ∧ each (oU N a) oV (a.drop k9) x8 = some r) (fun ⟨k9, i10, v7, x8⟩ => a.length - k9) ⟨0, 0, (.slice none 0 0), []⟩ ⟨rfl, rfl, trivial⟩ ?_ ?_
 exact ⟨h.cn _, rfl, hs⟩
 rintro ⟨k9, i10, v7, x8⟩ w dD ⟨h, hik, hs⟩
 refine ai (ag ?_)
 refine ae (dS rfl rfl) (ah (aa ?_))
 refine ai (iJ rfl (fun e14 => ?_) (fun e14 => ?_))
 refine aG (aa ?_)
 obtain ⟨eu, MH, MI⟩ := gy (hik ▸ e14)
 rw [MI, dW] at hs
 generalize Ga : each (oU N a) oV (a.drop (k9 + 1)) = nK at hs
 have MJ := gD ((h.iI 1 rfl)).cB hik e14
 refine ai (aU (ai (ag ?_)))
 obtain ⟨b17, o18, UA, h, RO, i16⟩ := h.xD 1 6 rfl iM rfl (iU hik) (gB hik MH)
 obtain ⟨u21, rfl, g22⟩ := ru RO
 replace h := h.di 7 g22.up
 refine ae (i16 _ _ _ _ _ _ _ _ _ rfl rfl) (ae (jg (k := 0) (vs := [(.int .i64 (eu.params)), (.int .i64 (eu.locals)), u21]) h 6 rfl lN rfl rfl rfl (Nat.le_of_ble_eq_true rfl)) (bY h 8 lN fun w Br h => dB (vs := [(.int .i64 (eu.params)), (.int .i64 (eu.locals)), u21]) h 8 [(.int .i64 (eu.params)), (.int .i64 (eu.locals)), u21] rfl lN rfl rfl rfl rfl rfl (ay rfl (ay rfl (ay (h.iq 7 rfl).one bg))) fun w h => ah (aa (ai (ag (ae (ak um rfl) (ae (aD h 8 rfl aZ rfl rfl) (ae (dV (pv := [(0, (.int .i64 (eu.params))), (1, (.int .i64 (30)))]) (out := [(.int .i64 (eu.params)), (.int .i64 (30)), (.slice none 0 0)]) Rp rfl ⟨0, 1, [(.int .i64 (eu.params))], rfl, rfl, rfl, Nat.le_of_ble_eq_true rfl, ⟨1, 1, [(.int .i64 (30))], rfl, rfl, rfl, Nat.le_of_ble_eq_true rfl, rfl⟩⟩) (bY h 9 uV fun w Yg h => dB (vs := [(.int .i64 (eu.params)), (.int .i64 (30)), (.slice none 0 0)]) h 9 [(.int .i64 (eu.params)), (.int .i64 (30)), (.slice none 0 0)] rfl uV rfl rfl rfl rfl rfl (ay rfl (ay rfl (ay rfl bg))) fun w h => ah (aa (cz (σ := Value × List Ins) (inl [16, 17, 18, 19, 20, 21, 22, 23, 24, 25, 26, 27, 28, 29, 30]) (fun ⟨v25, Kj⟩ => []) (fun ⟨v25, Kj⟩ w => SH w0 M BE w (hset [(1, .sr iY va a), (5, .own kF 57 v7 x8), (9, .blk Yg [(.int .i64 (eu.params)), (.int .i64 (30)), v25]), (70, .own jD 93 v25 Kj)]) ∧ tF x8 eu nK Kj = some r) ?_ ?_)))))))))))
 rintro ⟨v25, Kj⟩ w dD ⟨h, hs⟩
 refine ag (ae (au (v := v7) rfl) (ae (dE (vs := [(.int .i64 (eu.params)), (.int .i64 (30)), v25]) h 9 rfl uV rfl rfl rfl) ?_))
 replace h := h.freeze 70 rfl
 refine tJ (R := kF) (vs := [(.agg #[(.int .i64 (eu.params)), (.int .i64 (30)), v25])]) (xs := [(⟨eu.params, 30, Kj⟩ : dx)]) h 71 KJ rfl rfl rfl ⟨⟨_, rfl, (h.iq 70 rfl)⟩, trivial⟩ rfl fun w u27 h => ?_
 obtain ⟨a28, hs⟩ := bM hs
 refine mO (R := kF) (m := [(⟨eu.params, 30, Kj⟩ : dx)]) h 5 rfl (h.eF 71 rfl) KJ rfl rfl rfl a28.1 a28.2 fun w u29 h => ae (aj (v := u29) rfl) (ah (aA (aa (ag (ae (dH rfl rfl MJ) (ae (au (v := (.int .i64 ((i10 + 1)))) rfl) (ah (az ?_))))))))
 subst Ga
 exact jN ⟨k9 + 1, i10 + 1, u29, (x8 ++ [(⟨eu.params, 30, Kj⟩ : dx)])⟩ ⟨h.cn _, by omega, hs⟩ (by have := of_decide_eq_true e14; dsimp only; omega)
 refine mf (L := (fun x => x = Yg)) mixed h fun w h => bu 0 (aL.refl _ _) rfl ax (by kernel_rfl) (by kernel_rfl) (by kernel_rfl) (fun w hk => ak zN rfl) (bu 1 (aL.refl _ _) rfl ax (by kernel_rfl) (by kernel_rfl) (by kernel_rfl) (fun w hk => have h := h.qJ 9 rfl hk; aD h 8 rfl oN rfl rfl) (bu 2 (aL.refl _ _) rfl ax (by kernel_rfl) (by kernel_rfl) (by kernel_rfl) (fun w hk => au (v := va) rfl) (bu 3 (aL.refl _ _) rfl ax (by kernel_rfl) (by kernel_rfl) (by kernel_rfl) (fun w hk => ak xK rfl) (bu 4 (aL.refl _ _) rfl ax (by kernel_rfl) (by kernel_rfl) (by kernel_rfl) (fun w hk => have h := h.qJ 9 rfl hk; aD h 8 rfl aZ rfl rfl) (bu 6 (aL.refl _ _) rfl ax (by kernel_rfl) (by kernel_rfl) (by kernel_rfl) (fun w hk => ak xK rfl) (bu 7 (aL.refl _ _) rfl ax (by kernel_rfl) (by kernel_rfl) (by kernel_rfl) (fun w hk => have h := h.qJ 9 rfl hk; aD h 8 rfl aZ rfl rfl) (bu 8 (aL.refl _ _) rfl ax (by kernel_rfl) (by kernel_rfl) (by kernel_rfl) (fun w hk => dV (pv := [(0, (.int .i64 (1))), (1, (.int .i64 (eu.locals)))]) (out := [(.int .i64 (1)), (.int .i64 (eu.locals)), (.int .i64 (0)), (.int .i64 (0)), (.slice none 0 0)]) mh rfl ⟨0, 1, [(.int .i64 (1))], rfl, rfl, rfl, Nat.le_of_ble_eq_true rfl, ⟨1, 1, [(.int .i64 (eu.locals))], rfl, rfl, rfl, Nat.le_of_ble_eq_true rfl, rfl⟩⟩) (bu 9 (aL.refl _ _) rfl ax (by kernel_rfl) (by kernel_rfl) (by kernel_rfl) (fun w hk => ak xK rfl) (bu 10 (aL.refl _ _) rfl ax (by kernel_rfl) (by kernel_rfl) (by kernel_rfl) (fun w hk => have h := h.qJ 9 rfl hk; aD h 8 rfl aZ rfl rfl) (bu 11 (aL.refl _ _) rfl ax (by kernel_rfl) (by kernel_rfl) (by kernel_rfl) (fun w hk => dV (pv := [(0, (.int .i64 (8))), (1, (.int .i64 (eu.locals)))]) (out := [(.int .i64 (8)), (.int .i64 (eu.locals)), (.int .i64 (0)), (.int .i64 (0)), (.slice none 0 0)]) mh rfl ⟨0, 1, [(.int .i64 (8))], rfl, rfl, rfl, Nat.le_of_ble_eq_true rfl, ⟨1, 1, [(.int .i64 (eu.locals))], rfl, rfl, rfl, Nat.le_of_ble_eq_true rfl, rfl⟩⟩) ?_))))))))))
 obtain ⟨zQ, K7, hs⟩ := aQ hs
 obtain ⟨AP, hs⟩ := bM hs
 obtain ⟨MG, KT⟩ : ∃ x, x = w := ⟨_, rfl⟩
 have mI : aL (fun x => x = Yg) MG w := KT ▸ aL.refl (fun x => x = Yg) w
 refine rW KT.symm (oF 5 12 (by kernel_rfl) rfl ax rfl ax ?_ ?_)
 refine bA JJ rfl rfl (uH N _ _ h.lt u21 eu.body (h.mH 7 rfl) va a (h.iI 1 rfl) eu.locals 0 _ K7) ?_
 rintro _ w ⟨zR, Gi, rfl, Gj, zS⟩
 refine ⟨_, rfl, ?_⟩
 replace h := h.kJ 132 zR Gj zS
 have xY : ∀ b, ob Gi b → MG.heap.size ≤ b := fun b hb => Nat.le_trans mI.size (zS b hb)
 replace mI := mI.grow zR
 refine ah (aX mI (bS 12 (by kernel_rfl) rfl ax (zk (R := jD) (vs := [(.agg #[(.int .i64 (1)), (.int .i64 (eu.locals)), (.int .i64 (0)), (.int .i64 (0)), (.slice none 0 0)]), (.agg #[(.int .i64 (8)), (.int .i64 (eu.locals)), (.int .i64 (0)), (.int .i64 (0)), (.slice none 0 0)])]) (xs := [(⟨1, eu.locals, 0, 0, []⟩ : Ins), (⟨8, eu.locals, 0, 0, []⟩ : Ins)]) h 216 fu rfl rfl rfl ⟨⟨_, rfl, gL.nil⟩, ⟨⟨_, rfl, gL.nil⟩, trivial⟩⟩ rfl fun w DW h BH BI => ?_)))
 have M9 : ∀ b, ob DW b → MG.heap.size ≤ b := fun b hb => Nat.le_trans mI.size (BI b hb)
 replace mI := mI.grow BH
 refine ah (aX mI (bS 13 (by kernel_rfl) rfl ax ?_))
 have BJ := mI.size
 refine pg (R := jD) (m := [(⟨1, eu.locals, 0, 0, []⟩ : Ins), (⟨8, eu.locals, 0, 0, []⟩ : Ins)]) h 132 rfl (h.eF 216 rfl) fu rfl rfl rfl AP.1 AP.2 fun w xZ h BK BL => ?_
 replace mI := mI.QJ BK xY
 have Na := Iq BJ xY BL
 refine ah (aX mI (bu 14 mI rfl ax (by kernel_rfl) (by kernel_rfl) (by kernel_rfl) (fun w hk => ak qV rfl) (bS 15 (by kernel_rfl) rfl ax (qX h 9 [(.int .i64 (eu.params)), (.int .i64 (30)), xZ] rfl zl rfl rfl rfl rfl (h.dJ 132 rfl).one fun w h DX => ?_))))
 replace mI := mI.same DX
 refine ah (aX mI (gJ (by kernel_rfl) (az ?_)))
 replace h := h.Cx 132 70 rfl rfl (by decide)
 exact bU (xZ, (zQ ++ [(⟨1, eu.locals, 0, 0, []⟩ : Ins), (⟨8, eu.locals, 0, 0, []⟩ : Ins)])) ⟨h.cn _, hs⟩
 refine zk (R := jD) (vs := [(.agg #[(.int .i64 (1)), (.int .i64 (eu.locals)), (.int .i64 (0)), (.int .i64 (0)), (.slice none 0 0)]), (.agg #[(.int .i64 (8)), (.int .i64 (eu.locals)), (.int .i64 (0)), (.int .i64 (0)), (.slice none 0 0)])]) (xs := [(⟨1, eu.locals, 0, 0, []⟩ : Ins), (⟨8, eu.locals, 0, 0, []⟩ : Ins)]) h 216 fu rfl rfl rfl ⟨⟨_, rfl, gL.nil⟩, ⟨⟨_, rfl, gL.nil⟩, trivial⟩⟩ rfl fun w DW h BH BI => ?_
 have M9 : ∀ b, ob DW b → MG.heap.size ≤ b := fun b hb => Nat.le_trans mI.size (BI b hb)
 replace mI := mI.grow BH
 refine ah (aX mI (bS 5 (by kernel_rfl) rfl ax (bA JJ rfl rfl (uH N _ _ h.lt u21 eu.body (h.mH 7 rfl) va a (h.iI 1 rfl) eu.locals 0 _ K7) ?_)))
 rintro _ w ⟨zR, Gi, rfl, Gj, zS⟩
 refine ⟨_, rfl, ?_⟩
 replace h := h.kJ 132 zR Gj zS
 have xY : ∀ b, ob Gi b → MG.heap.size ≤ b := fun b hb => Nat.le_trans mI.size (zS b hb)
 replace mI := mI.grow zR
 refine ah (aX mI (bS 13 (by kernel_rfl) rfl ax ?_))
 have BJ := mI.size
 refine pg (R := jD) (m := [(⟨1, eu.locals, 0, 0, []⟩ : Ins), (⟨8, eu.locals, 0, 0, []⟩ : Ins)]) h 132 rfl (h.eF 216 rfl) fu rfl rfl rfl AP.1 AP.2 fun w xZ h BK BL => ?_
 replace mI := mI.QJ BK xY
 have Na := Iq BJ xY BL
 refine ah (aX mI (bu 14 mI rfl ax (by kernel_rfl) (by kernel_rfl) (by kernel_rfl) (fun w hk => ak qV rfl) (bS 15 (by kernel_rfl) rfl ax (qX h 9 [(.int .i64 (eu.params)), (.int .i64 (30)), xZ] rfl zl rfl rfl rfl rfl (h.dJ 132 rfl).one fun w h DX => ?_))))
 replace mI := mI.same DX
 refine ah (aX mI (gJ (by kernel_rfl) (az ?_)))
 replace h := h.Cx 132 70 rfl rfl (by decide)
 exact bU (xZ, (zQ ++ [(⟨1, eu.locals, 0, 0, []⟩ : Ins), (⟨8, eu.locals, 0, 0, []⟩ : Ins)])) ⟨h.cn _, hs⟩
 rw [gz (hik ▸ e14), iw] at hs
 refine dh (aO (aO (bE (aa (ai (ag (ae (au (v := v7) rfl) (ae (aj (v := v7) rfl) (ah (aa (aK (cu (v := v7) Tryz.results39 rfl ?_))))))))))))
 obtain rfl := Option.some.inj hs
 exact ⟨h.grown, _, rfl, (h.mP 5 rfl).1, (h.mP 5 rfl).2⟩
def fQ (x6 : Bool) : Bool × Bool × Bool × Bool :=
  bif x6 then (false, false, false, true) else (false, false, false, false)
def fD (a : Int) (x3 : Bool) : Bool × Bool × Bool × Bool :=
  bif x3 then (true, true, false, true) else bif decide ((a : Int) = 3) then (true, true, true, true) else bif decide ((a : Int) = 10) then fQ (decide ((a : Int) = 10)) else fQ (decide ((a : Int) = 12))
def dQ (a : Int) (x1 : Bool) : Bool × Bool × Bool × Bool :=
  bif x1 then (true, false, false, true) else bif decide ((a : Int) = 2) then fD a (decide ((a : Int) = 2)) else bif decide ((a : Int) = 4) then fD a (decide ((a : Int) = 4)) else fD a (decide ((a : Int) = 6))
def bR (a : Int) : Bool × Bool × Bool × Bool :=
  bif decide ((a : Int) = 1) then dQ a (decide ((a : Int) = 1)) else bif decide ((a : Int) = 5) then dQ a (decide ((a : Int) = 5)) else bif decide ((a : Int) = 8) then dQ a (decide ((a : Int) = 8)) else bif decide ((a : Int) = 9) then dQ a (decide ((a : Int) = 9)) else bif decide ((a : Int) = 11) then dQ a (decide ((a : Int) = 11)) else bif decide ((a : Int) = 13) then dQ a (decide ((a : Int) = 13)) else dQ a (decide ((a : Int) = 7))
theorem K8 (w0 : World) (M : BS) (hM : ∀ b, M b → b < w0.heap.size) (a : Int) (r : Bool × Bool × Bool × Bool) (hs : bR a = r) :
    Calls Tryz.prog 115 #[(.int .i64 (a))] w0 (fun e w' => Grow w0 w' ∧ e = .returned (.tuple #[.bool r.1, .bool r.2.1, .bool r.2.2.1, .bool r.2.2.2])) := by
 refine aS (args := [(.int .i64 (a))]) Tryz.func115 rfl Tryz.ntmps115 (Nat.le_of_ble_eq_true rfl) ?_
 have h := SH.init hM
 refine ai (ag (ae (aj (v := (.bool (false))) rfl) (ae (aj (v := (.bool (false))) rfl) (ae (aj (v := (.bool (false))) rfl) (ae (aj (v := (.bool (false))) rfl) (ah (aa (ai (ai (ag (ae (au (v := (.int .i64 (a))) rfl) (ah (aa (aU (cz (σ := Bool) (inl [7, 8, 9, 10, 11, 12, 13, 14]) (fun x1 => [(7, (.bool (x1)))]) (fun x1 w => SH w0 M BE w (hset []) ∧ dQ a x1 = r) ?_ ?_)))))))))))))))
 rintro x1 w dD ⟨h, hs⟩
 refine aN hs rfl (fun c2 hs => ?_) (fun c2 hs => ?_)
 refine ai (ag (ae (aj (v := (.bool (true))) rfl) (ae (aj (v := (.bool (false))) rfl) (ae (aj (v := (.bool (false))) rfl) (ae (aj (v := (.bool (true))) rfl) (ah (aa (aK (aH (aC (QU (v1 := (.bool (true))) (v2 := (.bool (false))) (v3 := (.bool (false))) (v4 := (.bool (true))) Tryz.results115 rfl rfl rfl rfl ?_)))))))))))
 obtain rfl := hs
 exact ⟨h.grown, rfl⟩
 refine cz (σ := Bool) (inl [15, 16, 17, 18]) (fun x3 => [(15, (.bool (x3)))]) (fun x3 w => SH w0 M BE w (hset []) ∧ fD a x3 = r) ?_ ?_
 rintro x3 w dD ⟨h, hs⟩
 refine aN hs rfl (fun c4 hs => ?_) (fun c4 hs => ?_)
 refine ai (ag (ae (aj (v := (.bool (true))) rfl) (ae (aj (v := (.bool (true))) rfl) (ae (aj (v := (.bool (false))) rfl) (ae (aj (v := (.bool (true))) rfl) (ah (aa (aK (aH (aC (QU (v1 := (.bool (true))) (v2 := (.bool (true))) (v3 := (.bool (false))) (v4 := (.bool (true))) Tryz.results115 rfl rfl rfl rfl ?_)))))))))))
 obtain rfl := hs
 exact ⟨h.grown, rfl⟩
 refine ai (ag (ae (bJ rfl rfl) (ae (aj (v := (.bool (decide ((a : Int) = 3)))) rfl) (ah (aa (aN hs rfl (fun c5 hs => ?_) (fun c5 hs => ?_)))))))
 refine ai (ag (ae (aj (v := (.bool (true))) rfl) (ae (aj (v := (.bool (true))) rfl) (ae (aj (v := (.bool (true))) rfl) (ae (aj (v := (.bool (true))) rfl) (ah (aa (aK (aH (aC (QU (v1 := (.bool (true))) (v2 := (.bool (true))) (v3 := (.bool (true))) (v4 := (.bool (true))) Tryz.results115 rfl rfl rfl rfl ?_)))))))))))
 obtain rfl := hs
 exact ⟨h.grown, rfl⟩
 refine cz (σ := Bool) (inl [21, 22, 23]) (fun x6 => [(21, (.bool (x6)))]) (fun x6 w => SH w0 M BE w (hset []) ∧ fQ x6 = r) ?_ ?_
 rintro x6 w dD ⟨h, hs⟩
 refine aN hs rfl (fun c7 hs => ?_) (fun c7 hs => ?_)
 refine ai (ag (ae (aj (v := (.bool (false))) rfl) (ae (aj (v := (.bool (false))) rfl) (ae (aj (v := (.bool (false))) rfl) (ae (aj (v := (.bool (true))) rfl) (ah (aa (aK (aH (aC (QU (v1 := (.bool (false))) (v2 := (.bool (false))) (v3 := (.bool (false))) (v4 := (.bool (true))) Tryz.results115 rfl rfl rfl rfl ?_)))))))))))
 obtain rfl := hs
 exact ⟨h.grown, rfl⟩
 refine aG (aA (aa (ai (ag (ae (aj (v := (.bool (false))) rfl) (ae (aj (v := (.bool (false))) rfl) (ae (aj (v := (.bool (false))) rfl) (ae (aj (v := (.bool (false))) rfl) (ah (aa (aK (QU (v1 := (.bool (false))) (v2 := (.bool (false))) (v3 := (.bool (false))) (v4 := (.bool (false))) Tryz.results115 rfl rfl rfl rfl ?_))))))))))))
 obtain rfl := hs
 exact ⟨h.grown, rfl⟩
 refine ai (ag (ae (bJ rfl rfl) (ae (aj (v := (.bool (decide ((a : Int) = 10)))) rfl) (ah (aa (aN hs rfl (fun c8 hs => ?_) (fun c8 hs => ?_)))))))
 refine aG (az ?_)
 exact bU (decide ((a : Int) = 10)) ⟨h.cn _, hs⟩
 refine ag (ae (bJ rfl rfl) (ae (aj (v := (.bool (decide ((a : Int) = 12)))) rfl) (ah (az ?_))))
 exact bU (decide ((a : Int) = 12)) ⟨h.cn _, hs⟩
 refine ai (ag (ae (bJ rfl rfl) (ae (aj (v := (.bool (decide ((a : Int) = 2)))) rfl) (ah (aa (aN hs rfl (fun c9 hs => ?_) (fun c9 hs => ?_)))))))
 refine aG (az ?_)
 exact bU (decide ((a : Int) = 2)) ⟨h.cn _, hs⟩
 refine ai (ag (ae (bJ rfl rfl) (ae (aj (v := (.bool (decide ((a : Int) = 4)))) rfl) (ah (aa (aN hs rfl (fun c10 hs => ?_) (fun c10 hs => ?_)))))))
 refine aG (az ?_)
 exact bU (decide ((a : Int) = 4)) ⟨h.cn _, hs⟩
 refine ag (ae (bJ rfl rfl) (ae (aj (v := (.bool (decide ((a : Int) = 6)))) rfl) (ah (az ?_))))
 exact bU (decide ((a : Int) = 6)) ⟨h.cn _, hs⟩
 refine ai (ag (ae (bJ rfl rfl) (ae (aj (v := (.bool (decide ((a : Int) = 1)))) rfl) (ah (aa (aN hs rfl (fun c11 hs => ?_) (fun c11 hs => ?_)))))))
 refine aG (az ?_)
 exact bU (decide ((a : Int) = 1)) ⟨h.cn _, hs⟩
 refine ai (ag (ae (bJ rfl rfl) (ae (aj (v := (.bool (decide ((a : Int) = 5)))) rfl) (ah (aa (aN hs rfl (fun c12 hs => ?_) (fun c12 hs => ?_)))))))
 refine aG (az ?_)
 exact bU (decide ((a : Int) = 5)) ⟨h.cn _, hs⟩
 refine ai (ag (ae (bJ rfl rfl) (ae (aj (v := (.bool (decide ((a : Int) = 8)))) rfl) (ah (aa (aN hs rfl (fun c13 hs => ?_) (fun c13 hs => ?_)))))))
 refine aG (az ?_)
 exact bU (decide ((a : Int) = 8)) ⟨h.cn _, hs⟩
 refine ai (ag (ae (bJ rfl rfl) (ae (aj (v := (.bool (decide ((a : Int) = 9)))) rfl) (ah (aa (aN hs rfl (fun c14 hs => ?_) (fun c14 hs => ?_)))))))
 refine aG (az ?_)
 exact bU (decide ((a : Int) = 9)) ⟨h.cn _, hs⟩
 refine ai (ag (ae (bJ rfl rfl) (ae (aj (v := (.bool (decide ((a : Int) = 11)))) rfl) (ah (aa (aN hs rfl (fun c15 hs => ?_) (fun c15 hs => ?_)))))))
 refine aG (az ?_)
 exact bU (decide ((a : Int) = 11)) ⟨h.cn _, hs⟩
 refine ai (ag (ae (bJ rfl rfl) (ae (aj (v := (.bool (decide ((a : Int) = 13)))) rfl) (ah (aa (aN hs rfl (fun c16 hs => ?_) (fun c16 hs => ?_)))))))
 refine aG (az ?_)
 exact bU (decide ((a : Int) = 13)) ⟨h.cn _, hs⟩
 refine ag (ae (bJ rfl rfl) (ae (aj (v := (.bool (decide ((a : Int) = 7)))) rfl) (ah (az ?_))))
 exact bU (decide ((a : Int) = 7)) ⟨h.cn _, hs⟩
def eH (a : Bool) (b : Int) (jV : Int) : Bool :=
  ((!a) || (decide ((0 : Int) ≤ b) && decide ((b : Int) < jV)))
theorem zm (w0 : World) (M : BS) (hM : ∀ b, M b → b < w0.heap.size) (a : Bool) (b : Int) (jV : Int) (q0 : Nat) (hq0 : ∃ E, w0.heap[q0]? = some (.cells #[(.int .i64 (jV))] E (0, 0))) (r : Bool) (hs : eH a b jV = r) :
    Calls Tryz.prog 116 #[(.bool (a)), (.int .i64 (b)), (.pointer (some ⟨q0, 0, none⟩))] w0 (fun e w' => Grow w0 w' ∧ e = .returned (.bool r)) := by
 refine aS (args := [(.bool (a)), (.int .i64 (b)), (.pointer (some ⟨q0, 0, none⟩))]) Tryz.func116 rfl Tryz.ntmps116 (Nat.le_of_ble_eq_true rfl) ?_
 have h := SH.init hM
 replace h := h.Im 1 (cs := [(.int .i64 (jV))]) hq0 bN
 refine ai (ag (ae (aj (v := (.bool (false))) rfl) (ah (aa (ai (ag (ae (au (v := (.bool (a))) rfl) (ae (gZ rfl) (ae (au (v := (.bool ((!a)))) rfl) (aF rfl rfl (fun q => au (v := (.int .i64 (b))) rfl) (aF rfl rfl (fun q => oZ (dA q) rfl) (aF rfl rfl (fun q => au (v := (.bool (decide ((0 : Int) ≤ b)))) (dA q)) (l9 ((!a) == false) rfl rfl (fun q => au (v := (.int .i64 (b))) rfl) (l9 ((!a) == false) rfl rfl (fun q => eO (k := 0) h 1 rfl aZ rfl rfl) (l9 ((!a) == false) rfl rfl (fun q => dS (dA q) (dA q)) (aF rfl rfl (fun q => fV (dA q) (OU q) ma) (ae (ic rfl rfl ma) (ae (aj (v := (.bool (((!a) || (decide ((0 : Int) ≤ b) && decide ((b : Int) < jV)))))) rfl) (ah (aa (aK (cu (v := (.bool (((!a) || (decide ((0 : Int) ≤ b) && decide ((b : Int) < jV)))))) Tryz.results116 rfl ?_))))))))))))))))))))))
 obtain rfl := hs
 exact ⟨h.grown, rfl⟩
def mF (d : Int) (x20 : Int) (s : Unit) (UH : Unit → Option Int) : Option Int :=
  bif (!(decide ((0 : Int) ≤ x20) && decide ((x20 : Int) < d))) then some 3 else UH ()
def qN (s : Unit) : Option Int :=
  some 0
def ed (x9 : Bool) (a : Ins) (b : Int) (FC : Int) (c : List dx) (y13 : Int) (zw : Int) (d : Int) (Qv : Int) : Option Int :=
  bif (!x9) then some 3 else bif (((decide ((a.a : Int) ≠ Qv) || decide ((a.b : Int) ≠ FC)) || decide ((a.c : Int) ≠ y13)) || decide (((a.args.length : Int) : Int) ≠ zw)) then some 4 else bif decide ((a.op : Int) = 7) then each (mF d) qN a.args () else some 0
def cO (a : Ins) (b : Int) (c : List dx) (d : Int) (x9 : Bool) (zw : Int) (PL : Int) (FC : Int) (y13 : Int) : Option Int :=
  bif decide ((a.op : Int) = 12) then ed x9 a b FC c y13 zw d 0 else ed x9 a b FC c y13 zw d PL
def dI (a : Ins) (b : Int) (c : List dx) (d : Int) (pV : Bool) : Option Int :=
  bif pV then cO a b c d ((bR a.op).2.2.2) 0 a.a 0 0 else bif decide ((a.op : Int) = 10) then cO a b c d ((bR a.op).2.2.2) 0 0 0 0 else cO a b c d ((bR a.op).2.2.2) 0 a.a a.b 0
def dM (a : Ins) (b : Int) (c : List dx) (d : Int) (e : Int) (Yh : Bool) : Option Int :=
  bif Yh then cO a b c d (decide ((0 : Int) ≤ a.b) && decide ((a.b : Int) < e)) 0 a.a a.b 0 else bif decide ((a.op : Int) = 7) then bif (decide ((a.b : Int) < 0) || decide (((c.length : Int) : Int) ≤ a.b)) then some 5 else (idx c a.b).bind fun x54 => cO a b c d ((bR a.op).2.2.2) x54.params a.a a.b 0 else bif decide ((a.op : Int) = 8) then dI a b c d (decide ((a.op : Int) = 8)) else bif decide ((a.op : Int) = 9) then dI a b c d (decide ((a.op : Int) = 9)) else dI a b c d (decide ((a.op : Int) = 11))
def dN (a : Ins) (b : Int) (c : List dx) (d : Int) (e : Int) (x34 : Bool) : Option Int :=
  bif x34 then cO a b c d (decide ((0 : Int) ≤ a.c) && decide ((a.c : Int) < 4)) 0 a.a a.b a.c else bif decide ((a.op : Int) = 3) then bif decide (((a.args.length : Int) : Int) = 1) then (idx a.args 0).bind fun x38 => cO a b c d (decide ((1 : Int) ≤ x38) && decide ((x38 : Int) ≤ 5)) 1 a.a a.b a.c else cO a b c d false 1 a.a a.b a.c else bif decide ((a.op : Int) = 12) then dM a b c d e (decide ((a.op : Int) = 12)) else dM a b c d e (decide ((a.op : Int) = 13))
def gV (a : Ins) (b : Int) (c : List dx) (d : Int) (e : Int) : Option Int :=
  bif (!(bR a.op).2.2.2) then some 4 else bif (((!((!(bR a.op).1) || (decide ((0 : Int) ≤ a.a) && decide ((a.a : Int) < d)))) || (!(eH ((bR a.op).2.1) a.b d))) || (!(eH ((bR a.op).2.2.1) a.c d))) then some 3 else bif decide ((a.op : Int) = 1) then cO a b c d (decide ((-1000000000 : Int) ≤ a.b) && decide ((a.b : Int) ≤ 1000000000)) 0 a.a a.b 0 else bif decide ((a.op : Int) = 5) then cO a b c d (decide ((1 : Int) ≤ a.b) && decide ((a.b : Int) ≤ 4)) 0 a.a a.b 0 else bif decide ((a.op : Int) = 4) then dN a b c d e (decide ((a.op : Int) = 4)) else dN a b c d e (decide ((a.op : Int) = 6))
theorem JZ (w0 : World) (M : BS) (hM : ∀ b, M b → b < w0.heap.size) (a : Ins) (BM : Value) (ZC : gL fT w0 BE M BM a.args) (b : Int) (vc : Value) (c : List dx) (hc : gL kF w0 BE M vc c) (d : Int) (e : Int) (r : Int) (hs : gV a b c d e = some r) :
    Calls Tryz.prog 86 #[(.agg #[(.int .i64 (a.op)), (.int .i64 (a.a)), (.int .i64 (a.b)), (.int .i64 (a.c)), BM]), (.int .i64 (b)), vc, (.int .i64 (d)), (.int .i64 (e))] w0 (fun e w' => Grow w0 w' ∧ e = .returned (.int .i64 r)) := by
 refine aS (args := [(.agg #[(.int .i64 (a.op)), (.int .i64 (a.a)), (.int .i64 (a.b)), (.int .i64 (a.c)), BM]), (.int .i64 (b)), vc, (.int .i64 (d)), (.int .i64 (e))]) Tryz.func86 rfl Tryz.ntmps86 (Nat.le_of_ble_eq_true rfl) ?_
 have h := SH.init hM
 replace h := h.fI 1 ZC bN
 replace h := h.fI 2 hc (dn bN)
 have hl_c := hc.cB
 refine ai (ag (oD (cs := [(.int .i64 (a.op)), (.int .i64 (a.a)), (.int .i64 (a.b)), (.int .i64 (a.c)), BM]) h 3 rfl rfl fun w b1 h => oD (cs := [(.int .i64 (d))]) h 4 rfl rfl fun w b2 h => ae (aj (v := (.int .i64 (0))) rfl) (ah (aa (ai (ag (ae (ak pz rfl) (ae (aD h 3 rfl aZ rfl rfl) (bA Ur rfl rfl (K8 _ _ h.lt a.op _ rfl) ?_)))))))))
 rintro _ w ⟨k3, rfl⟩
 refine ⟨_, rfl, ?_⟩
 replace h := h.grow k3
 refine ae (au (v := (.tuple #[(.bool ((bR a.op).1)), (.bool ((bR a.op).2.1)), (.bool ((bR a.op).2.2.1)), (.bool ((bR a.op).2.2.2))])) rfl) (ae (bF rfl rfl) (ae (bF rfl rfl) (ae (bF rfl rfl) (ae (bF rfl rfl) (ae (aj (v := (.bool ((bR a.op).1))) rfl) (ae (aj (v := (.bool ((bR a.op).2.1))) rfl) (ae (aj (v := (.bool ((bR a.op).2.2.1))) rfl) (ae (aj (v := (.bool ((bR a.op).2.2.2))) rfl) (ah (aa (ai (ai (ag (ae (au (v := (.bool ((bR a.op).2.2.2))) rfl) (ae (gZ rfl) (ah (aa (aN hs rfl (fun c4 hs => ?_) (fun c4 hs => ?_)))))))))))))))))))
 refine ai (ag (ae (aj (v := (.int .i64 (4))) rfl) (ah (aa (aK (aC (cu (v := (.int .i64 (4))) Tryz.results86 rfl ?_)))))))
 obtain rfl := Option.some.inj hs
 exact ⟨h.grown, rfl⟩
 refine aG (aa (ai (ag (ae (qW (c1 := []) (c2 := [(.pointer (some ⟨b2, 0, none⟩))]) rfl rfl) (ae (aj (v := (.func (.func 116) #[] #[(.pointer (some ⟨b2, 0, none⟩))])) rfl) (ah (aa (ai (ai (ag (ae (au (v := (.func (.func 116) #[] #[(.pointer (some ⟨b2, 0, none⟩))])) rfl) (ae (au (v := (.bool ((bR a.op).1))) rfl) (ae (ak kv rfl) (ae (aD h 3 rfl aZ rfl rfl) (jE (args := [(.bool ((bR a.op).1)), (.int .i64 (a.a)), (.pointer (some ⟨b2, 0, none⟩))]) Fu rfl rfl (aS (args := [(.bool ((bR a.op).1)), (.int .i64 (a.a)), (.pointer (some ⟨b2, 0, none⟩))]) Tryz.func116 rfl Tryz.ntmps116 (Nat.le_of_ble_eq_true rfl) (ai (ag (ae (aj (v := (.bool (false))) rfl) (ah (aa (ai (ag ?_)))))))))))))))))))))))
 refine ae (au (v := (.bool ((bR a.op).1))) rfl) (ae (gZ rfl) (ae (au (v := (.bool ((!(bR a.op).1)))) rfl) (aF rfl rfl (fun q => au (v := (.int .i64 (a.a))) rfl) (aF rfl rfl (fun q => oZ (dA q) rfl) (aF rfl rfl (fun q => au (v := (.bool (decide ((0 : Int) ≤ a.a)))) (dA q)) (l9 ((!(bR a.op).1) == false) rfl rfl (fun q => au (v := (.int .i64 (a.a))) rfl) (l9 ((!(bR a.op).1) == false) rfl rfl (fun q => aD h 4 rfl aZ rfl rfl) (l9 ((!(bR a.op).1) == false) rfl rfl (fun q => dS (dA q) (dA q)) (aF rfl rfl (fun q => fV (dA q) (OU q) ma) (ae (ic rfl rfl ma) (ae (aj (v := (.bool (((!(bR a.op).1) || (decide ((0 : Int) ≤ a.a) && decide ((a.a : Int) < d)))))) rfl) (ah (aa (aK (cu (v := (.bool (((!(bR a.op).1) || (decide ((0 : Int) ≤ a.a) && decide ((a.a : Int) < d)))))) Tryz.results116 rfl (⟨_, rfl, ?_⟩))))))))))))))))
 refine ae (gZ rfl) (ae (au (v := (.bool ((!((!(bR a.op).1) || (decide ((0 : Int) ≤ a.a) && decide ((a.a : Int) < d))))))) rfl) (aF rfl rfl (fun q => au (v := (.func (.func 116) #[] #[(.pointer (some ⟨b2, 0, none⟩))])) rfl) (aF rfl rfl (fun q => au (v := (.bool ((bR a.op).2.1))) rfl) (aF rfl rfl (fun q => ak iX rfl) (aF rfl rfl (fun q => aD h 3 rfl aZ (dA q) rfl) (FK [(.pointer (some ⟨b2, 0, none⟩))] rfl rfl Fu (fun q => (dA q)) (fun q => lM (dA q) (lM (dA q) rfl)) (zm _ _ h.lt ((bR a.op).2.1) a.b d b2 (h.qB 4 rfl) _ rfl) fun w k5 => ?_))))))
 replace h := h.grow k5
 refine aF rfl rfl (fun q => gZ (dA q)) (ae (ic rfl rfl ma) (ae (au (v := (.bool (((!((!(bR a.op).1) || (decide ((0 : Int) ≤ a.a) && decide ((a.a : Int) < d)))) || (!(eH ((bR a.op).2.1) a.b d)))))) rfl) (aF rfl rfl (fun q => au (v := (.func (.func 116) #[] #[(.pointer (some ⟨b2, 0, none⟩))])) rfl) (aF rfl rfl (fun q => au (v := (.bool ((bR a.op).2.2.1))) rfl) (aF rfl rfl (fun q => ak qo rfl) (aF rfl rfl (fun q => aD h 3 rfl aZ (dA q) rfl) (FK [(.pointer (some ⟨b2, 0, none⟩))] rfl rfl Fu (fun q => (dA q)) (fun q => lM (dA q) (lM (dA q) rfl)) (zm _ _ h.lt ((bR a.op).2.2.1) a.c d b2 (h.qB 4 rfl) _ rfl) fun w k6 => ?_)))))))
 replace h := h.grow k6
 refine aF rfl rfl (fun q => gZ (dA q)) (ae (ic rfl rfl ma) (ah (aa (aN hs rfl (fun c7 hs => ?_) (fun c7 hs => ?_)))))
 refine ai (ag (ae (aj (v := (.int .i64 (3))) rfl) (ah (aa (aK (aC (cu (v := (.int .i64 (3))) Tryz.results86 rfl ?_)))))))
 obtain rfl := Option.some.inj hs
 exact ⟨h.grown, rfl⟩
 refine aG (aa (ai (ag (ae (ak qo rfl) (ae (aD h 3 rfl aZ rfl rfl) (ae (oZ rfl rfl) (ae (au (v := (.bool (decide ((0 : Int) ≤ a.c)))) rfl) (aF rfl rfl (fun q => ak qo rfl) (aF rfl rfl (fun q => aD h 3 rfl aZ (dA q) rfl) (aF rfl rfl (fun q => dS (dA q) rfl) (ae (fV rfl rfl ma) (ae (aj (v := (.bool ((decide ((0 : Int) ≤ a.c) && decide ((a.c : Int) < 4))))) rfl) (ah (aa (ai (ag (ae (aj (v := (.int .i64 (0))) rfl) (ah (aa (ai (ag (ae (ak pz rfl) (ae (aD h 3 rfl aZ rfl rfl) ?_)))))))))))))))))))))))
 refine ae (ak kv rfl) (ae (aD h 3 rfl aZ rfl rfl) (ae (ak iX rfl) (ae (aD h 3 rfl aZ rfl rfl) (ae (dV (pv := [(0, (.int .i64 (a.op))), (1, (.int .i64 (a.a))), (2, (.int .i64 (a.b)))]) (out := [(.int .i64 (a.op)), (.int .i64 (a.a)), (.int .i64 (a.b)), (.int .i64 (0)), (.slice none 0 0)]) mh rfl ⟨0, 1, [(.int .i64 (a.op))], rfl, rfl, rfl, Nat.le_of_ble_eq_true rfl, ⟨1, 1, [(.int .i64 (a.a))], rfl, rfl, rfl, Nat.le_of_ble_eq_true rfl, ⟨2, 1, [(.int .i64 (a.b))], rfl, rfl, rfl, Nat.le_of_ble_eq_true rfl, rfl⟩⟩⟩) (bY h 5 pK fun w b8 h => dB (vs := [(.int .i64 (a.op)), (.int .i64 (a.a)), (.int .i64 (a.b)), (.int .i64 (0)), (.slice none 0 0)]) h 5 [(.int .i64 (a.op)), (.int .i64 (a.a)), (.int .i64 (a.b)), (.int .i64 (0)), (.slice none 0 0)] rfl pK rfl rfl rfl rfl rfl (ay rfl (ay rfl (ay rfl (ay rfl (ay rfl bg))))) fun w h => ah (aa (cz (σ := Bool × Int × Int × Int × Int) (inl [10, 14, 17, 69, 70, 71, 72, 73, 74, 75, 76, 77, 78, 79, 80, 81, 82, 83, 84, 85, 86, 87, 88, 89, 90, 91, 92, 93, 94, 95, 96, 97, 98, 99, 100, 101, 102, 103, 104, 105, 106, 107, 108, 109, 110, 111, 112, 113, 114, 115, 116, 117, 118, 119, 120, 121, 122, 123, 124, 125, 126, 127, 128, 129, 130, 131, 132, 133, 134, 135, 136, 137, 138, 139, 140, 141, 142, 143, 144, 145, 146, 147, 148, 149, 150, 151, 152, 153, 154, 155, 156, 157, 158, 159]) (fun ⟨x9, zw, PL, FC, y13⟩ => [(14, (.bool (x9))), (17, (.int .i64 (zw)))]) (fun ⟨x9, zw, PL, FC, y13⟩ w => SH w0 M BE w (hset [(1, .sr fT BM a.args), (3, .blk b1 [(.int .i64 (a.op)), (.int .i64 (a.a)), (.int .i64 (a.b)), (.int .i64 (a.c)), BM]), (4, .blk b2 [(.int .i64 (d))]), (5, .blk b8 [(.int .i64 (a.op)), (.int .i64 (PL)), (.int .i64 (FC)), (.int .i64 (y13)), (.slice none 0 0)])]) ∧ cO a b c d x9 zw PL FC y13 = some r) ?_ ?_)))))))
 rintro ⟨x9, zw, PL, FC, y13⟩ w dD ⟨h, hs⟩
 refine cz (σ := Int) (inl [160, 161, 162, 163]) (fun Qv => []) (fun Qv w => SH w0 M BE w (hset [(1, .sr fT BM a.args), (3, .blk b1 [(.int .i64 (a.op)), (.int .i64 (a.a)), (.int .i64 (a.b)), (.int .i64 (a.c)), BM]), (4, .blk b2 [(.int .i64 (d))]), (5, .blk b8 [(.int .i64 (a.op)), (.int .i64 (Qv)), (.int .i64 (FC)), (.int .i64 (y13)), (.slice none 0 0)])]) ∧ ed x9 a b FC c y13 zw d Qv = some r) ?_ ?_
 rintro Qv w dD ⟨h, hs⟩
 refine ai (ai (ag (ae (au (v := (.bool (x9))) rfl) (ae (gZ rfl) (ah (aa (aN hs rfl (fun c15 hs => ?_) (fun c15 hs => ?_))))))))
 refine ai (ag (ae (aj (v := (.int .i64 (3))) rfl) (ah (aa (aK (aC (cu (v := (.int .i64 (3))) Tryz.results86 rfl ?_)))))))
 obtain rfl := Option.some.inj hs
 exact ⟨h.grown, rfl⟩
 refine aG (aa (ai (ai (ag (ae (ak kv rfl) (ae (aD h 3 rfl aZ rfl rfl) (ae (ak kv rfl) (ae (aD h 5 rfl aZ rfl rfl) (ae (gu rfl rfl) (ae (au (v := (.bool (decide ((a.a : Int) ≠ Qv)))) rfl) (aF rfl rfl (fun q => ak iX rfl) (aF rfl rfl (fun q => aD h 3 rfl aZ (dA q) rfl) (aF rfl rfl (fun q => ak iX rfl) (aF rfl rfl (fun q => aD h 5 rfl aZ (dA q) rfl) (aF rfl rfl (fun q => gu (dA q) (dA q)) (ae (ic rfl rfl ma) (ae (au (v := (.bool ((decide ((a.a : Int) ≠ Qv) || decide ((a.b : Int) ≠ FC))))) rfl) (aF rfl rfl (fun q => ak qo rfl) (aF rfl rfl (fun q => aD h 3 rfl aZ (dA q) rfl) (aF rfl rfl (fun q => ak qo rfl) (aF rfl rfl (fun q => aD h 5 rfl aZ (dA q) rfl) (aF rfl rfl (fun q => gu (dA q) (dA q)) (ae (ic rfl rfl ma) ?_)))))))))))))))))))))))
 refine ae (au (v := (.bool (((decide ((a.a : Int) ≠ Qv) || decide ((a.b : Int) ≠ FC)) || decide ((a.c : Int) ≠ y13))))) rfl) (aF rfl rfl (fun q => ak vH rfl) (aF rfl rfl (fun q => aD h 3 rfl uq (dA q) rfl) (aF rfl rfl (fun q => bW dC (dA q) (h.iI 1 rfl)) (aF rfl rfl (fun q => au (v := (.int .i64 (zw))) rfl) (aF rfl rfl (fun q => gu (dA q) (dA q)) (ae (ic rfl rfl ma) (ah (aa (aN hs rfl (fun c16 hs => ?_) (fun c16 hs => ?_))))))))))
 refine ai (ag (ae (aj (v := (.int .i64 (4))) rfl) (ah (aa (aK (aC (cu (v := (.int .i64 (4))) Tryz.results86 rfl ?_)))))))
 obtain rfl := Option.some.inj hs
 exact ⟨h.grown, rfl⟩
 refine aG (aa (ai (ai (ag (ae (ak pz rfl) (ae (aD h 3 rfl aZ rfl rfl) (ae (bJ rfl rfl) (ah (aa (aN hs rfl (fun c17 hs => ?_) (fun c17 hs => ?_)))))))))))
 refine ai (ag (ae (ak vH rfl) (ae (aD h 3 rfl uq rfl rfl) (ae (bW dC rfl (h.iI 1 rfl)) (ae (au (v := (.int .i64 (0))) rfl) (ah (aa (aU (gP (σ := Nat × Int) (inl [10, 20, 198, 199, 200, 201, 202, 203, 204, 205, 206]) (fun ⟨k18, i19⟩ => [(198, (.int .i64 (i19)))]) (fun ⟨k18, i19⟩ w => SH w0 M BE w (hset [(1, .sr fT BM a.args), (4, .blk b2 [(.int .i64 (d))])]) ∧ i19 = (k18 : Int) ∧ each (mF d) qN (a.args.drop k18) () = some r) (fun ⟨k18, i19⟩ => a.args.length - k18) ⟨0, 0⟩ ⟨rfl, trivial⟩ ?_ ?_)))))))))
 exact ⟨h.cn _, rfl, hs⟩
 rintro ⟨k18, i19⟩ w dD ⟨h, hik, hs⟩
 refine ai (ag ?_)
 refine ae (dS rfl rfl) (ah (aa ?_))
 refine ai (iJ rfl (fun e23 => ?_) (fun e23 => ?_))
 refine aG (aa ?_)
 obtain ⟨x20, e24a, e24b⟩ := gy (hik ▸ e23)
 rw [e24b, dW] at hs
 generalize ZE : each (mF d) qN (a.args.drop (k18 + 1)) = UH at hs
 have e24r := gD ((h.iI 1 rfl)).cB hik e23
 refine ai (aU (ai (ag ?_)))
 obtain ⟨WM, o27, UG, h, Xj, i25⟩ := h.xD 1 6 rfl dC rfl (iU hik) (gB hik e24a)
 obtain rfl := Xj
 refine ae (i25 _ _ _ _ _ _ _ _ _ rfl rfl) (ae (eO (k := 0) h 6 rfl aZ rfl rfl) (ae (aj (v := (.int .i64 (x20))) rfl) (ah (aa (ai (ag (ae (au (v := (.func (.func 116) #[] #[(.pointer (some ⟨b2, 0, none⟩))])) rfl) (ae (au (v := (.int .i64 (x20))) rfl) (jE (args := [(.bool (true)), (.int .i64 (x20)), (.pointer (some ⟨b2, 0, none⟩))]) Fu rfl rfl (aS (args := [(.bool (true)), (.int .i64 (x20)), (.pointer (some ⟨b2, 0, none⟩))]) Tryz.func116 rfl Tryz.ntmps116 (Nat.le_of_ble_eq_true rfl) (ai (ag (ae (aj (v := (.bool (false))) rfl) (ah (aa (ai (ag (ae (au (v := (.bool (true))) rfl) (ae (gZ rfl) (ae (au (v := (.bool (false))) rfl) (dK rfl rfl (ae (au (v := (.int .i64 (x20))) rfl) (dK rfl rfl ?_)))))))))))))))))))))))
 refine ae (oZ rfl rfl) (dK rfl rfl (ae (au (v := (.bool (decide ((0 : Int) ≤ x20)))) rfl) (aF rfl rfl (fun q => au (v := (.int .i64 (x20))) rfl) (aF rfl rfl (fun q => aD h 4 rfl aZ rfl rfl) (aF rfl rfl (fun q => dS (dA q) (dA q)) (dK rfl rfl (ae (fV rfl rfl ma) (ae (cK (b := false) (v := (.bool ((decide ((0 : Int) ≤ x20) && decide ((x20 : Int) < d))))) rfl rfl) (ae (aj (v := (.bool ((decide ((0 : Int) ≤ x20) && decide ((x20 : Int) < d))))) rfl) (ah (aa (aK (cu (v := (.bool ((decide ((0 : Int) ≤ x20) && decide ((x20 : Int) < d))))) Tryz.results116 rfl (⟨_, rfl, ?_⟩))))))))))))))
 refine ae (gZ rfl) (ah (aa (aN hs rfl (fun c30 hs => ?_) (fun c30 hs => ?_))))
 refine ai (ag (ae (aj (v := (.int .i64 (3))) rfl) (ah (aa (aK (aH (aC (aC (aH (aC (cu (v := (.int .i64 (3))) Tryz.results86 rfl ?_)))))))))))
 obtain rfl := Option.some.inj hs
 exact ⟨h.grown, rfl⟩
 refine aG (aA (aa (ag (ae (dH rfl rfl e24r) (ae (au (v := (.int .i64 ((i19 + 1)))) rfl) (ah (az ?_)))))))
 subst ZE
 exact jN ⟨k18 + 1, i19 + 1⟩ ⟨h.cn _, by omega, hs⟩ (by have := of_decide_eq_true e23; dsimp only; omega)
 rw [gz (hik ▸ e23), iw] at hs
 refine dh (aO (aO (bE (aa (ai (ag (ae (aj (v := (.int .i64 (0))) rfl) (ah (aa (aK (cu (v := (.int .i64 (0))) Tryz.results86 rfl ?_)))))))))))
 obtain rfl := Option.some.inj hs
 exact ⟨h.grown, rfl⟩
 refine aG (aa (ai (ag (ae (aj (v := (.int .i64 (0))) rfl) (ah (aa (aK (cu (v := (.int .i64 (0))) Tryz.results86 rfl ?_))))))))
 obtain rfl := Option.some.inj hs
 exact ⟨h.grown, rfl⟩
 refine ai (ag (ae (ak pz rfl) (ae (aD h 3 rfl aZ rfl rfl) (ae (bJ rfl rfl) (ah (aa (aN hs rfl (fun c31 hs => ?_) (fun c31 hs => ?_))))))))
 refine ag (ae (ak kv rfl) (fJ h 5 [(.int .i64 (a.op)), (.int .i64 (0)), (.int .i64 (FC)), (.int .i64 (y13)), (.slice none 0 0)] rfl aZ rfl rfl rfl rfl rfl fun w h => ah (az ?_)))
 exact bU 0 ⟨h.cn _, hs⟩
 refine aG (az ?_)
 exact bU PL ⟨h.cn _, hs⟩
 refine ai (ag (ae (ak pz rfl) (ae (aD h 3 rfl aZ rfl rfl) (ah (aa (aU (ai (ag (ae (bJ rfl rfl) (ae (aj (v := (.bool (decide ((a.op : Int) = 1)))) rfl) (ah (aa (aN hs rfl (fun c32 hs => ?_) (fun c32 hs => ?_))))))))))))))
 refine ag (ae (ak iX rfl) (ae (aD h 3 rfl aZ rfl rfl) (ae (oZ rfl rfl) (ae (au (v := (.bool (decide ((-1000000000 : Int) ≤ a.b)))) rfl) (aF rfl rfl (fun q => ak iX rfl) (aF rfl rfl (fun q => aD h 3 rfl aZ (dA q) rfl) (aF rfl rfl (fun q => Cr (dA q) rfl) (ae (fV rfl rfl ma) (ae (aj (v := (.bool ((decide ((-1000000000 : Int) ≤ a.b) && decide ((a.b : Int) ≤ 1000000000))))) rfl) (ah (aA (az ?_))))))))))))
 exact bU ((decide ((-1000000000 : Int) ≤ a.b) && decide ((a.b : Int) ≤ 1000000000)), 0, a.a, a.b, 0) ⟨h.cn _, hs⟩
 refine ai (ag (ae (bJ rfl rfl) (ae (aj (v := (.bool (decide ((a.op : Int) = 5)))) rfl) (ah (aa (aN hs rfl (fun c33 hs => ?_) (fun c33 hs => ?_)))))))
 refine ag (ae (ak iX rfl) (ae (aD h 3 rfl aZ rfl rfl) (ae (oZ rfl rfl) (ae (au (v := (.bool (decide ((1 : Int) ≤ a.b)))) rfl) (aF rfl rfl (fun q => ak iX rfl) (aF rfl rfl (fun q => aD h 3 rfl aZ (dA q) rfl) (aF rfl rfl (fun q => Cr (dA q) rfl) (ae (fV rfl rfl ma) (ae (aj (v := (.bool ((decide ((1 : Int) ≤ a.b) && decide ((a.b : Int) ≤ 4))))) rfl) (ah (aA (az ?_))))))))))))
 exact bU ((decide ((1 : Int) ≤ a.b) && decide ((a.b : Int) ≤ 4)), 0, a.a, a.b, 0) ⟨h.cn _, hs⟩
 refine cz (σ := Bool) (inl [91, 92, 93]) (fun x34 => [(91, (.bool (x34)))]) (fun x34 w => SH w0 M BE w (hset [(1, .sr fT BM a.args), (2, .sr kF vc c), (3, .blk b1 [(.int .i64 (a.op)), (.int .i64 (a.a)), (.int .i64 (a.b)), (.int .i64 (a.c)), BM]), (4, .blk b2 [(.int .i64 (d))]), (5, .blk b8 [(.int .i64 (a.op)), (.int .i64 (a.a)), (.int .i64 (a.b)), (.int .i64 (0)), (.slice none 0 0)])]) ∧ dN a b c d e x34 = some r) ?_ ?_
 rintro x34 w dD ⟨h, hs⟩
 refine aN hs rfl (fun WV hs => ?_) (fun WV hs => ?_)
 refine qP 5 mixed (by kernel_rfl) h fun w h => aJ (au (v := (.bool ((decide ((0 : Int) ≤ a.c) && decide ((a.c : Int) < 4))))) rfl) (aJ (ak qo rfl) (aJ (aD h 3 rfl aZ rfl rfl) (aJ (aj (v := (.bool ((decide ((0 : Int) ≤ a.c) && decide ((a.c : Int) < 4))))) rfl) (aJ (ak qo rfl) (zi (fJ h 5 [(.int .i64 (a.op)), (.int .i64 (a.a)), (.int .i64 (a.b)), (.int .i64 (a.c)), (.slice none 0 0)] rfl aZ rfl rfl rfl rfl rfl fun w h => ah (aA (az ?_))))))))
 exact bU ((decide ((0 : Int) ≤ a.c) && decide ((a.c : Int) < 4)), 0, a.a, a.b, a.c) ⟨h.cn _, hs⟩
 refine ai (ag (ae (bJ rfl rfl) (ae (aj (v := (.bool (decide ((a.op : Int) = 3)))) rfl) (ah (aa (aN hs rfl (fun c36 hs => ?_) (fun c36 hs => ?_)))))))
 refine ai (qP 4 mixed (by kernel_rfl) h fun w h => aJ (ak qo rfl) (aJ (aD h 3 rfl aZ rfl rfl) (aJ (aj (v := (.int .i64 (1))) rfl) (aJ (ak qo rfl) (zi (fJ h 5 [(.int .i64 (a.op)), (.int .i64 (a.a)), (.int .i64 (a.b)), (.int .i64 (a.c)), (.slice none 0 0)] rfl aZ rfl rfl rfl rfl rfl fun w h => ah (aa (ag (ae (ak vH rfl) (ae (aD h 3 rfl uq rfl rfl) (ae (bW dC rfl (h.iI 1 rfl)) (ae (bJ rfl rfl) (ae (au (v := (.bool (decide (((a.args.length : Int) : Int) = 1)))) rfl) (iQ (b := decide (((a.args.length : Int) : Int) = 1)) hs (fun c37 hs => ?_) (fun c37 hs => ?_)))))))))))))))
 refine dK rfl (congrArg Value.bool c37) (ae (ak vH rfl) (dK rfl (congrArg Value.bool c37) (ae (aD h 3 rfl uq rfl rfl) (dK rfl (congrArg Value.bool c37) ?_))))
 obtain ⟨x38, e39, hs⟩ := aQ hs
 obtain ⟨b41, o42, cs43, h, r44, i40⟩ := h.xD 1 7 rfl dC rfl (aI e39).1 (aI e39).2
 obtain rfl := r44
 refine ae (i40 _ _ _ _ _ _ _ _ _ rfl rfl) (dK rfl (congrArg Value.bool c37) (ae (eO (k := 0) h 7 rfl aZ rfl rfl) (dK rfl (congrArg Value.bool c37) (ae (oZ rfl rfl) (ae (cK (b := true) (v := (.bool (decide ((1 : Int) ≤ x38)))) (congrArg Value.bool c37) rfl) (ae (au (v := (.bool (decide ((1 : Int) ≤ x38)))) rfl) (aF rfl rfl (fun q => ak vH rfl) (aF rfl rfl (fun q => aD h 3 rfl uq (dA q) rfl) ?_))))))))
 obtain ⟨b46, o47, cs48, h, r49, i45⟩ := h.xD 1 8 rfl dC rfl (aI e39).1 (aI e39).2
 obtain rfl := r49
 refine aF rfl rfl (fun q => i45 _ _ _ _ _ _ _ _ _ (dA q) rfl) (aF rfl rfl (fun q => eO (k := 0) h 8 rfl aZ (dA q) rfl) (aF rfl rfl (fun q => Cr (dA q) rfl) (ae (fV rfl rfl ma) (ae (aj (v := (.bool ((decide ((1 : Int) ≤ x38) && decide ((x38 : Int) ≤ 5))))) rfl) (ah (aA (az ?_)))))))
 exact bU ((decide ((1 : Int) ≤ x38) && decide ((x38 : Int) ≤ 5)), 1, a.a, a.b, a.c) ⟨h.cn _, hs⟩
 refine bH (b' := false) rfl (congrArg Value.bool c37) rfl (bH (b' := false) rfl (congrArg Value.bool c37) rfl (bH (b' := false) rfl (congrArg Value.bool c37) rfl (bH (b' := false) rfl (congrArg Value.bool c37) rfl (bH (b' := false) rfl (congrArg Value.bool c37) rfl (ae (cK (b := false) (v := (.bool (false))) (congrArg Value.bool c37) rfl) (ae (au (v := (.bool (false))) rfl) (bH (b' := false) rfl rfl rfl (bH (b' := false) rfl rfl rfl (bH (b' := false) rfl rfl rfl (bH (b' := false) rfl rfl rfl (bH (b' := false) rfl rfl rfl (ae (cK (b := false) (v := (.bool (false))) rfl rfl) (ae (aj (v := (.bool (false))) rfl) (ah (aA (az ?_))))))))))))))))
 exact bU (false, 1, a.a, a.b, a.c) ⟨h.cn _, hs⟩
 refine cz (σ := Bool) (inl [121, 122, 123]) (fun Yh => [(121, (.bool (Yh)))]) (fun Yh w => SH w0 M BE w (hset [(1, .sr fT BM a.args), (2, .sr kF vc c), (3, .blk b1 [(.int .i64 (a.op)), (.int .i64 (a.a)), (.int .i64 (a.b)), (.int .i64 (a.c)), BM]), (4, .blk b2 [(.int .i64 (d))]), (5, .blk b8 [(.int .i64 (a.op)), (.int .i64 (a.a)), (.int .i64 (a.b)), (.int .i64 (0)), (.slice none 0 0)])]) ∧ dM a b c d e Yh = some r) ?_ ?_
 rintro Yh w dD ⟨h, hs⟩
 refine aN hs rfl (fun c51 hs => ?_) (fun c51 hs => ?_)
 refine ag (ae (ak iX rfl) (ae (aD h 3 rfl aZ rfl rfl) (ae (oZ rfl rfl) (ae (au (v := (.bool (decide ((0 : Int) ≤ a.b)))) rfl) (aF rfl rfl (fun q => ak iX rfl) (aF rfl rfl (fun q => aD h 3 rfl aZ (dA q) rfl) (aF rfl rfl (fun q => au (v := (.int .i64 (e))) rfl) (aF rfl rfl (fun q => dS (dA q) (dA q)) (ae (fV rfl rfl ma) (ae (aj (v := (.bool ((decide ((0 : Int) ≤ a.b) && decide ((a.b : Int) < e))))) rfl) (ah (aA (az ?_)))))))))))))
 exact bU ((decide ((0 : Int) ≤ a.b) && decide ((a.b : Int) < e)), 0, a.a, a.b, 0) ⟨h.cn _, hs⟩
 refine ai (ag (ae (bJ rfl rfl) (ae (aj (v := (.bool (decide ((a.op : Int) = 7)))) rfl) (ah (aa (aN hs rfl (fun BA hs => ?_) (fun BA hs => ?_)))))))
 refine ai (ai (ag (ae (ak iX rfl) (ae (aD h 3 rfl aZ rfl rfl) (ae (dS rfl rfl) (ae (au (v := (.bool (decide ((a.b : Int) < 0)))) rfl) (aF rfl rfl (fun q => ak iX rfl) (aF rfl rfl (fun q => aD h 3 rfl aZ (dA q) rfl) (aF rfl rfl (fun q => au (v := vc) rfl) (aF rfl rfl (fun q => bW jI (dA q) (h.iI 2 rfl)) (aF rfl rfl (fun q => oZ (dA q) (dA q)) (ae (ic rfl rfl ma) (ah (aa (aN hs rfl (fun c53 hs => ?_) (fun c53 hs => ?_))))))))))))))))
 refine ai (ag (ae (aj (v := (.int .i64 (5))) rfl) (ah (aa (aK (aC (aH (aC (cu (v := (.int .i64 (5))) Tryz.results86 rfl ?_)))))))))
 obtain rfl := Option.some.inj hs
 exact ⟨h.grown, rfl⟩
 refine aG (aa (ag (ae (au (v := vc) rfl) (ae (ak iX rfl) (ae (aD h 3 rfl aZ rfl rfl) ?_)))))
 obtain ⟨x54, e55, hs⟩ := aQ hs
 obtain ⟨b57, o58, ZF, h, ZG, i56⟩ := h.xD 2 9 rfl jI rfl (aI e55).1 (aI e55).2
 obtain ⟨u61, rfl, ZH⟩ := nN ZG
 replace h := h.di 10 ZH.up
 refine ae (i56 _ _ _ _ _ _ _ _ _ rfl rfl) (ae (ak CJ rfl) (ae (eO (k := 0) h 9 rfl aZ rfl rfl) (ae (aj (v := (.int .i64 (x54.params))) rfl) (ah (aA (az ?_))))))
 exact bU ((bR a.op).2.2.2, x54.params, a.a, a.b, 0) ⟨h.cn _, hs⟩
 refine cz (σ := Bool) (inl [151, 152, 153, 154]) (fun pV => [(151, (.bool (pV)))]) (fun pV w => SH w0 M BE w (hset [(1, .sr fT BM a.args), (3, .blk b1 [(.int .i64 (a.op)), (.int .i64 (a.a)), (.int .i64 (a.b)), (.int .i64 (a.c)), BM]), (4, .blk b2 [(.int .i64 (d))]), (5, .blk b8 [(.int .i64 (a.op)), (.int .i64 (a.a)), (.int .i64 (a.b)), (.int .i64 (0)), (.slice none 0 0)])]) ∧ dI a b c d pV = some r) ?_ ?_
 rintro pV w dD ⟨h, hs⟩
 refine aN hs rfl (fun c64 hs => ?_) (fun c64 hs => ?_)
 refine ag (ae (ak iX rfl) (fJ h 5 [(.int .i64 (a.op)), (.int .i64 (a.a)), (.int .i64 (0)), (.int .i64 (0)), (.slice none 0 0)] rfl aZ rfl rfl rfl rfl rfl fun w h => ah (aA (az ?_))))
 exact bU ((bR a.op).2.2.2, 0, a.a, 0, 0) ⟨h.cn _, hs⟩
 refine ai (ag (ae (bJ rfl rfl) (ae (aj (v := (.bool (decide ((a.op : Int) = 10)))) rfl) (ah (aa (aN hs rfl (fun Bf hs => ?_) (fun Bf hs => ?_)))))))
 refine ag (ae (ak kv rfl) (fJ h 5 [(.int .i64 (a.op)), (.int .i64 (0)), (.int .i64 (a.b)), (.int .i64 (0)), (.slice none 0 0)] rfl aZ rfl rfl rfl rfl rfl fun w h => ae (ak iX rfl) (fJ h 5 [(.int .i64 (a.op)), (.int .i64 (0)), (.int .i64 (0)), (.int .i64 (0)), (.slice none 0 0)] rfl aZ rfl rfl rfl rfl rfl fun w h => ah (aA (az ?_)))))
 exact bU ((bR a.op).2.2.2, 0, 0, 0, 0) ⟨h.cn _, hs⟩
 refine aG (aA (az ?_))
 exact bU ((bR a.op).2.2.2, 0, a.a, a.b, 0) ⟨h.cn _, hs⟩
 refine ai (ag (ae (bJ rfl rfl) (ae (aj (v := (.bool (decide ((a.op : Int) = 8)))) rfl) (ah (aa (aN hs rfl (fun c66 hs => ?_) (fun c66 hs => ?_)))))))
 refine aG (az ?_)
 exact bU (decide ((a.op : Int) = 8)) ⟨h.cn _, hs⟩
 refine ai (ag (ae (bJ rfl rfl) (ae (aj (v := (.bool (decide ((a.op : Int) = 9)))) rfl) (ah (aa (aN hs rfl (fun c67 hs => ?_) (fun c67 hs => ?_)))))))
 refine aG (az ?_)
 exact bU (decide ((a.op : Int) = 9)) ⟨h.cn _, hs⟩
 refine ag (ae (bJ rfl rfl) (ae (aj (v := (.bool (decide ((a.op : Int) = 11)))) rfl) (ah (az ?_))))
 exact bU (decide ((a.op : Int) = 11)) ⟨h.cn _, hs⟩
 refine ai (ag (ae (bJ rfl rfl) (ae (aj (v := (.bool (decide ((a.op : Int) = 12)))) rfl) (ah (aa (aN hs rfl (fun c68 hs => ?_) (fun c68 hs => ?_)))))))
 refine aG (az ?_)
 exact bU (decide ((a.op : Int) = 12)) ⟨h.cn _, hs⟩
 refine ag (ae (bJ rfl rfl) (ae (aj (v := (.bool (decide ((a.op : Int) = 13)))) rfl) (ah (az ?_))))
 exact bU (decide ((a.op : Int) = 13)) ⟨h.cn _, hs⟩
 refine ai (ag (ae (bJ rfl rfl) (ae (aj (v := (.bool (decide ((a.op : Int) = 4)))) rfl) (ah (aa (aN hs rfl (fun Nb hs => ?_) (fun Nb hs => ?_)))))))
 refine aG (az ?_)
 exact bU (decide ((a.op : Int) = 4)) ⟨h.cn _, hs⟩
 refine ag (ae (bJ rfl rfl) (ae (aj (v := (.bool (decide ((a.op : Int) = 6)))) rfl) (ah (az ?_))))
 exact bU (decide ((a.op : Int) = 6)) ⟨h.cn _, hs⟩
def gm (a : List dx) (tq : dx) (i35 : Int) (r9 : Ins) (s : Unit) (J2 : Unit → Option Int) : Option Int :=
  (gV r9 i35 a tq.regs (tq.code.length : Int)).bind fun HV => bif decide ((HV : Int) ≠ 0) then some HV else J2 ()
def mX (tq : dx) (jM : Unit → Option Int) (s : Unit) : Option Int :=
  ib (jO ((tq.code.length : Int) - 1)) ((idx tq.code ((tq.code.length : Int) - 1)).bind fun x54 => bif (decide ((x54.op : Int) ≠ 8) && decide ((x54.op : Int) ≠ 12)) then some 4 else jM ())
def jQ (a : List dx) (tq : dx) (s : Unit) (jM : Unit → Option Int) : Option Int :=
  dU (gm a tq) (mX tq jM) 0 tq.code ()
def mY (s : Unit) : Option Int :=
  some 0
def iV (i3 : Int) (x4 : dx) (s : Unit) (Fa : Unit → Option Int) : Option Int :=
  bif (((((decide ((x4.params : Int) < 0) || decide ((3 : Int) < x4.params)) || decide ((x4.regs : Int) < 1)) || decide ((x4.regs : Int) < x4.params)) || decide ((40 : Int) < x4.regs)) || (decide ((i3 : Int) = 0) && decide ((0 : Int) < x4.params))) then some 3 else bif (decide (((x4.code.length : Int) : Int) = 0) || decide ((2000 : Int) < (x4.code.length : Int))) then some 2 else Fa ()
def lG (a : List dx) (s : Unit) : Option Int :=
  each (jQ a) mY a ()
def pW (a : List dx) : Option Int :=
  bif (decide (((a.length : Int) : Int) = 0) || decide ((4 : Int) < (a.length : Int))) then some 2 else dU iV (lG a) 0 a ()
theorem CU (w0 : World) (M : BS) (hM : ∀ b, M b → b < w0.heap.size) (va : Value) (a : List dx) (ha : gL kF w0 BE M va a) (r : Int) (hs : pW a = some r) :
    Calls Tryz.prog 63 #[va] w0 (fun e w' => Grow w0 w' ∧ e = .returned (.int .i64 r)) := by
 refine aS (args := [va]) Tryz.func63 rfl Tryz.ntmps63 (Nat.le_of_ble_eq_true rfl) ?_
 have h := SH.init hM
 replace h := h.fI 1 ha bN
 have uw := ha.cB
 refine ai (ag (ae (aj (v := (.int .i64 (0))) rfl) (ah (aa (ai (ai (ag (ae (au (v := va) rfl) (ae (bW jI rfl (h.iI 1 rfl)) (ae (bJ rfl rfl) (ae (au (v := (.bool (decide (((a.length : Int) : Int) = 0)))) rfl) (aF rfl rfl (fun q => au (v := va) rfl) (aF rfl rfl (fun q => bW jI (dA q) (h.iI 1 rfl)) (aF rfl rfl (fun q => j6 (dA q) rfl) (ae (ic rfl rfl ma) (ah (aa (aN hs rfl (fun c1 hs => ?_) (fun c1 hs => ?_)))))))))))))))))))
 refine ai (ag (ae (aj (v := (.int .i64 (2))) rfl) (ah (aa (aK (aC (cu (v := (.int .i64 (2))) Tryz.results63 rfl ?_)))))))
 obtain rfl := Option.some.inj hs
 exact ⟨h.grown, rfl⟩
 refine aG (aa (ai (ai (ag (ae (au (v := va) rfl) (ae (bW jI rfl (h.iI 1 rfl)) (ae (au (v := (.int .i64 (0))) rfl) (ah (aa (aU (gP (σ := Nat × Int) (inl [2, 3, 4, 21, 22, 23, 24, 25, 26, 27, 28, 29, 30, 31, 32, 33, 34, 35, 36, 37, 38, 39, 40, 41, 42, 43, 44, 45, 46, 47, 48, 49, 50, 51, 52, 53, 54, 55, 56, 57, 58, 59, 60, 61, 62, 63, 64, 65, 66, 67, 68, 69, 70]) (fun ⟨k2, i3⟩ => [(21, (.int .i64 (i3)))]) (fun ⟨k2, i3⟩ w => SH w0 M BE w (hset [(1, .sr kF va a)]) ∧ i3 = (k2 : Int) ∧ dU iV (lG a) i3 (a.drop k2) () = some r) (fun ⟨k2, i3⟩ => a.length - k2) ⟨0, 0⟩ ⟨rfl, trivial⟩ ?_ ?_)))))))))))
 exact ⟨h.cn _, rfl, hs⟩
 rintro ⟨k2, i3⟩ w dD ⟨h, hik, hs⟩
 refine ai (ag ?_)
 refine ae (dS rfl rfl) (ah (aa ?_))
 refine ai (iJ rfl (fun e7 => ?_) (fun e7 => ?_))
 refine aG (aa ?_)
 obtain ⟨x4, WN, WO⟩ := gy (hik ▸ e7)
 rw [WO, gU] at hs
 generalize F6 : dU iV (lG a) (i3 + 1) (a.drop (k2 + 1)) = Fa at hs
 have Rt := gD ((h.iI 1 rfl)).cB hik e7
 refine ai (aU (ai (ag (ae (au (v := (.int .i64 (i3))) rfl) ?_))))
 obtain ⟨b10, o11, WQ, h, WR, i9⟩ := h.xD 1 2 rfl jI rfl (iU hik) (gB hik WN)
 obtain ⟨IB, rfl, g15⟩ := nN WR
 replace h := h.di 3 g15.up
 refine ae (i9 _ _ _ _ _ _ _ _ _ rfl rfl) (ae (jg (k := 0) (vs := [(.int .i64 (x4.params)), (.int .i64 (x4.regs)), IB]) h 2 rfl uV rfl rfl rfl (Nat.le_of_ble_eq_true rfl)) (bY h 4 uV fun w b16 h => ae (aj (v := (.int .i64 (i3))) rfl) (dB (vs := [(.int .i64 (x4.params)), (.int .i64 (x4.regs)), IB]) h 4 [(.int .i64 (x4.params)), (.int .i64 (x4.regs)), IB] rfl uV rfl rfl rfl rfl rfl (ay rfl (ay rfl (ay (h.iq 3 rfl).one bg))) fun w h => ah (aa (ai (ai (ag (ae (ak CJ rfl) (ae (aD h 4 rfl aZ rfl rfl) (ae (dS rfl rfl) (ae (au (v := (.bool (decide ((x4.params : Int) < 0)))) rfl) (aF rfl rfl (fun q => ak CJ rfl) (aF rfl rfl (fun q => aD h 4 rfl aZ (dA q) rfl) (aF rfl rfl (fun q => j6 (dA q) rfl) (ae (ic rfl rfl ma) (ae (au (v := (.bool ((decide ((x4.params : Int) < 0) || decide ((3 : Int) < x4.params))))) rfl) (aF rfl rfl (fun q => ak yM rfl) (aF rfl rfl (fun q => aD h 4 rfl aZ (dA q) rfl) (aF rfl rfl (fun q => dS (dA q) rfl) (ae (ic rfl rfl ma) (ae (au (v := (.bool (((decide ((x4.params : Int) < 0) || decide ((3 : Int) < x4.params)) || decide ((x4.regs : Int) < 1))))) rfl) ?_)))))))))))))))))))))
 refine aF rfl rfl (fun q => ak yM rfl) (aF rfl rfl (fun q => aD h 4 rfl aZ (dA q) rfl) (aF rfl rfl (fun q => ak CJ rfl) (aF rfl rfl (fun q => aD h 4 rfl aZ (dA q) rfl) (aF rfl rfl (fun q => dS (dA q) (dA q)) (ae (ic rfl rfl ma) (ae (au (v := (.bool ((((decide ((x4.params : Int) < 0) || decide ((3 : Int) < x4.params)) || decide ((x4.regs : Int) < 1)) || decide ((x4.regs : Int) < x4.params))))) rfl) (aF rfl rfl (fun q => ak yM rfl) (aF rfl rfl (fun q => aD h 4 rfl aZ (dA q) rfl) (aF rfl rfl (fun q => j6 (dA q) rfl) (ae (ic rfl rfl ma) (ae (au (v := (.bool (((((decide ((x4.params : Int) < 0) || decide ((3 : Int) < x4.params)) || decide ((x4.regs : Int) < 1)) || decide ((x4.regs : Int) < x4.params)) || decide ((40 : Int) < x4.regs))))) rfl) (aF rfl rfl (fun q => au (v := (.int .i64 (i3))) rfl) (aF rfl rfl (fun q => bJ (dA q) rfl) (aF rfl rfl (fun q => au (v := (.bool (decide ((i3 : Int) = 0)))) (dA q)) (l9 (((((decide ((x4.params : Int) < 0) || decide ((3 : Int) < x4.params)) || decide ((x4.regs : Int) < 1)) || decide ((x4.regs : Int) < x4.params)) || decide ((40 : Int) < x4.regs)) == false) rfl rfl (fun q => ak CJ rfl) (l9 (((((decide ((x4.params : Int) < 0) || decide ((3 : Int) < x4.params)) || decide ((x4.regs : Int) < 1)) || decide ((x4.regs : Int) < x4.params)) || decide ((40 : Int) < x4.regs)) == false) rfl rfl (fun q => aD h 4 rfl aZ (dA q) rfl) (l9 (((((decide ((x4.params : Int) < 0) || decide ((3 : Int) < x4.params)) || decide ((x4.regs : Int) < 1)) || decide ((x4.regs : Int) < x4.params)) || decide ((40 : Int) < x4.regs)) == false) rfl rfl (fun q => j6 (dA q) rfl) (aF rfl rfl (fun q => fV (dA q) (OU q) ma) (ae (ic rfl rfl ma) (ah (aa (aN hs rfl (fun c17 hs => ?_) (fun c17 hs => ?_)))))))))))))))))))))))
 refine ai (ag (ae (aj (v := (.int .i64 (3))) rfl) (ah (aa (aK (aC (aH (aC (aC (aH (aC (cu (v := (.int .i64 (3))) Tryz.results63 rfl ?_))))))))))))
 obtain rfl := Option.some.inj hs
 exact ⟨h.grown, rfl⟩
 refine aG (aa (ai (ag (ae (ak qV rfl) (ae (aD h 4 rfl zl rfl rfl) (ae (bW jA rfl (h.mH 3 rfl)) (ae (bJ rfl rfl) (ae (au (v := (.bool (decide (((x4.code.length : Int) : Int) = 0)))) rfl) (aF rfl rfl (fun q => ak qV rfl) (aF rfl rfl (fun q => aD h 4 rfl zl (dA q) rfl) (aF rfl rfl (fun q => bW jA (dA q) (h.mH 3 rfl)) (aF rfl rfl (fun q => j6 (dA q) rfl) (ae (ic rfl rfl ma) (ah (aa (aN hs rfl (fun c18 hs => ?_) (fun c18 hs => ?_)))))))))))))))))
 refine ai (ag (ae (aj (v := (.int .i64 (2))) rfl) (ah (aa (aK (aH (aC (aC (aH (aC (cu (v := (.int .i64 (2))) Tryz.results63 rfl ?_)))))))))))
 obtain rfl := Option.some.inj hs
 exact ⟨h.grown, rfl⟩
 refine aG (aA (aa (ag (ae (dH rfl rfl Rt) (ae (au (v := (.int .i64 ((i3 + 1)))) rfl) (ah (az ?_)))))))
 subst F6
 exact jN ⟨k2 + 1, i3 + 1⟩ ⟨h.cn _, by omega, hs⟩ (by have := of_decide_eq_true e7; dsimp only; omega)
 rw [gz (hik ▸ e7), kI] at hs
 refine dh (aO (aO (bE (aa (ai (ai (ag (ae (au (v := va) rfl) (ae (bW jI rfl (h.iI 1 rfl)) (ae (au (v := (.int .i64 (0))) rfl) (ah (aa (aU (gP (σ := Nat × Int) (inl [2, 6, 7, 8, 9, 10, 73, 74, 75, 76, 77, 78, 79, 80, 81, 82, 83, 84, 85, 86, 87, 88, 89, 90, 91, 92, 93, 94, 95, 96, 97, 98, 99, 100, 101, 102, 103, 104, 105, 106, 107, 108, 109, 110, 111, 112, 113]) (fun ⟨k19, i20⟩ => [(73, (.int .i64 (i20)))]) (fun ⟨k19, i20⟩ w => SH w0 M BE w (hset [(1, .sr kF va a)]) ∧ i20 = (k19 : Int) ∧ each (jQ a) mY (a.drop k19) () = some r) (fun ⟨k19, i20⟩ => a.length - k19) ⟨0, 0⟩ ⟨rfl, trivial⟩ ?_ ?_))))))))))))))
 exact ⟨h.cn _, rfl, hs⟩
 rintro ⟨k19, i20⟩ w dD ⟨h, hik, hs⟩
 refine ai (ag ?_)
 refine ae (dS rfl rfl) (ah (aa ?_))
 refine ai (iJ rfl (fun e24 => ?_) (fun e24 => ?_))
 refine aG (aa ?_)
 obtain ⟨tq, Xp, Xq⟩ := gy (hik ▸ e24)
 rw [Xq, dW] at hs
 generalize K3 : each (jQ a) mY (a.drop (k19 + 1)) = jM at hs
 have Xr := gD ((h.iI 1 rfl)).cB hik e24
 refine ai (aU (ai (ag ?_)))
 obtain ⟨b27, o28, ZI, h, UI, i26⟩ := h.xD 1 5 rfl jI rfl (iU hik) (gB hik Xp)
 obtain ⟨u31, rfl, Xt⟩ := nN UI
 replace h := h.di 6 Xt.up
 refine ae (i26 _ _ _ _ _ _ _ _ _ rfl rfl) (ae (jg (k := 0) (vs := [(.int .i64 (tq.params)), (.int .i64 (tq.regs)), u31]) h 5 rfl uV rfl rfl rfl (Nat.le_of_ble_eq_true rfl)) (bY h 7 uV fun w WZ h => dB (vs := [(.int .i64 (tq.params)), (.int .i64 (tq.regs)), u31]) h 7 [(.int .i64 (tq.params)), (.int .i64 (tq.regs)), u31] rfl uV rfl rfl rfl rfl rfl (ay rfl (ay rfl (ay (h.iq 6 rfl).one bg))) fun w h => ah (aa (ai (ai (ag (ae (ak qV rfl) (ae (aD h 7 rfl zl rfl rfl) (ae (bW jA rfl (h.mH 6 rfl)) (ae (au (v := (.int .i64 (0))) rfl) (ah (aa (aU (gP (σ := Nat × Int) (inl [2, 7, 8, 9, 80, 81, 82, 83, 84, 85, 86, 87, 88, 89, 90, 91, 92, 93, 94, 95, 96, 97]) (fun ⟨K9, i35⟩ => [(80, (.int .i64 (i35)))]) (fun ⟨K9, i35⟩ w => SH w0 M BE w (hset [(1, .sr kF va a), (6, .rd jD u31 tq.code), (7, .blk WZ [(.int .i64 (tq.params)), (.int .i64 (tq.regs)), u31])]) ∧ i35 = (K9 : Int) ∧ dU (gm a tq) (mX tq jM) i35 (tq.code.drop K9) () = some r) (fun ⟨K9, i35⟩ => tq.code.length - K9) ⟨0, 0⟩ ⟨rfl, trivial⟩ ?_ ?_))))))))))))))
 exact ⟨h.cn _, rfl, hs⟩
 rintro ⟨K9, i35⟩ w dD ⟨h, hik, hs⟩
 refine ai (ag ?_)
 refine ae (dS rfl rfl) (ah (aa ?_))
 refine ai (iJ rfl (fun e39 => ?_) (fun e39 => ?_))
 refine aG (aa ?_)
 obtain ⟨r9, Xu, Xv⟩ := gy (hik ▸ e39)
 rw [Xv, gU] at hs
 generalize Sc : dU (gm a tq) (mX tq jM) (i35 + 1) (tq.code.drop (K9 + 1)) = J2 at hs
 have Xw := gD ((h.mH 6 rfl)).cB hik e39
 refine ai (aU (ai (ag (ae (au (v := (.int .i64 (i35))) rfl) ?_))))
 obtain ⟨b42, o43, cs44, h, r45, i41⟩ := h.Dm 6 8 rfl jA rfl (iU hik) (gB hik Xu)
 obtain ⟨u46, rfl, g47⟩ := Ay r45
 replace h := h.di 9 g47.up
 refine ae (i41 _ _ _ _ _ _ _ _ _ rfl rfl) (ae (jg (k := 0) (vs := [(.int .i64 (r9.op)), (.int .i64 (r9.a)), (.int .i64 (r9.b)), (.int .i64 (r9.c)), u46]) h 8 rfl pK rfl rfl rfl (Nat.le_of_ble_eq_true rfl)) (bY h 10 pK fun w b48 h => ae (aj (v := (.int .i64 (i35))) rfl) (dB (vs := [(.int .i64 (r9.op)), (.int .i64 (r9.a)), (.int .i64 (r9.b)), (.int .i64 (r9.c)), u46]) h 10 [(.int .i64 (r9.op)), (.int .i64 (r9.a)), (.int .i64 (r9.b)), (.int .i64 (r9.c)), u46] rfl pK rfl rfl rfl rfl rfl (ay rfl (ay rfl (ay rfl (ay rfl (ay (h.iq 9 rfl).one bg))))) fun w h => ah (aa (ai (ag (ae (dE (vs := [(.int .i64 (r9.op)), (.int .i64 (r9.a)), (.int .i64 (r9.b)), (.int .i64 (r9.c)), u46]) h 10 rfl pK rfl rfl rfl) (ae (au (v := (.int .i64 (i35))) rfl) (ae (au (v := va) rfl) (ae (ak yM rfl) (ae (aD h 7 rfl aZ rfl rfl) (ae (ak qV rfl) (ae (aD h 7 rfl zl rfl rfl) (ae (bW jA rfl (h.mH 6 rfl)) ?_))))))))))))))
 obtain ⟨HV, e50, hs⟩ := aQ hs
 refine bA WI rfl rfl (JZ _ _ h.lt r9 u46 (h.mH 9 rfl) i35 va a (h.iI 1 rfl) tq.regs (tq.code.length : Int) _ e50) ?_
 rintro _ w ⟨k51, rfl⟩
 refine ⟨_, rfl, ?_⟩
 replace h := h.grow k51
 refine ae (aj (v := (.int .i64 (HV))) rfl) (ah (aa (ai (ag (ae (au (v := (.int .i64 (HV))) rfl) (ae (gu rfl rfl) (ah (aa (aN hs rfl (fun BA hs => ?_) (fun BA hs => ?_))))))))))
 refine ai (ag (ae (au (v := (.int .i64 (HV))) rfl) (ae (aj (v := (.int .i64 (HV))) rfl) (ah (aa (aK (aH (aC (aC (aH (aC (aH (aC (aC (aH (aC (cu (v := (.int .i64 (HV))) Tryz.results63 rfl ?_)))))))))))))))))
 obtain rfl := Option.some.inj hs
 exact ⟨h.grown, rfl⟩
 refine aG (aA (aa (ag (ae (dH rfl rfl Xw) (ae (au (v := (.int .i64 ((i35 + 1)))) rfl) (ah (az ?_)))))))
 subst Sc
 exact jN ⟨K9 + 1, i35 + 1⟩ ⟨h.cn _, by omega, hs⟩ (by have := of_decide_eq_true e39; dsimp only; omega)
 rw [gz (hik ▸ e39), kI] at hs
 refine dh (aO (aO (bE (aa (ai (ag (ae (ak qV rfl) (ae (aD h 7 rfl zl rfl rfl) (ae (ak qV rfl) (ae (aD h 7 rfl zl rfl rfl) (ae (bW jA rfl (h.mH 6 rfl)) ?_)))))))))))
 obtain ⟨a53, hs⟩ := bM hs
 refine ae (oz rfl rfl a53) ?_
 obtain ⟨x54, e55, hs⟩ := aQ hs
 obtain ⟨b57, o58, ZF, h, ZG, i56⟩ := h.Dm 6 11 rfl jA rfl (aI e55).1 (aI e55).2
 obtain ⟨u61, rfl, ZH⟩ := Ay ZG
 replace h := h.di 12 ZH.up
 refine ae (i56 _ _ _ _ _ _ _ _ _ rfl rfl) (ae (ak pz rfl) (ae (eO (k := 0) h 11 rfl aZ rfl rfl) (ae (aj (v := (.int .i64 (x54.op))) rfl) (ah (aa (ai (ag (ae (au (v := (.int .i64 (x54.op))) rfl) (ae (gu rfl rfl) (ae (au (v := (.bool (decide ((x54.op : Int) ≠ 8)))) rfl) (aF rfl rfl (fun q => au (v := (.int .i64 (x54.op))) rfl) (aF rfl rfl (fun q => gu (dA q) rfl) (ae (fV rfl rfl ma) (ah (aa (aN hs rfl (fun c63 hs => ?_) (fun c63 hs => ?_)))))))))))))))))
 refine ai (ag (ae (aj (v := (.int .i64 (4))) rfl) (ah (aa (aK (aH (aC (aC (aH (aC (cu (v := (.int .i64 (4))) Tryz.results63 rfl ?_)))))))))))
 obtain rfl := Option.some.inj hs
 exact ⟨h.grown, rfl⟩
 refine aG (aA (aa (ag (ae (dH rfl rfl Xr) (ae (au (v := (.int .i64 ((i20 + 1)))) rfl) (ah (az ?_)))))))
 subst K3
 exact jN ⟨k19 + 1, i20 + 1⟩ ⟨h.cn _, by omega, hs⟩ (by have := of_decide_eq_true e24; dsimp only; omega)
 rw [gz (hik ▸ e24), iw] at hs
 refine dh (aO (aO (bE (aa (ai (ag (ae (aj (v := (.int .i64 (0))) rfl) (ah (aa (aK (cu (v := (.int .i64 (0))) Tryz.results63 rfl ?_)))))))))))
 obtain rfl := Option.some.inj hs
 exact ⟨h.grown, rfl⟩
def Sd (a : List dx) : Option (LX.State × Int) :=
  (pW a).bind fun y2 => bif decide ((y2 : Int) ≠ 0) then some ((⟨[], [], 0, 0⟩ : LX.State), y2) else (idx a 0).bind fun x6 => ib (0 ≤ x6.regs ∧ x6.regs * 16 ≤ 140737488355328) (some ((⟨[(⟨0, 0, (List.replicate x6.regs.toNat (⟨0, 0⟩ : Val)), 0⟩ : LX.Frame)], [], 0, 0⟩ : LX.State), 0))
theorem Sg (w0 : World) (M : BS) (hM : ∀ b, M b → b < w0.heap.size) (va : Value) (a : List dx) (ha : gL kF w0 BE M va a) (r : LX.State × Int) (hs : Sd a = some r) :
    Calls Tryz.prog 29 #[va] w0 (fun e w' => Grow w0 w' ∧ ∃ wz, ∃ zx, e = .returned (.tuple #[.agg #[wz, zx, .int .i64 r.1.status, .int .i64 r.1.aV], .int .i64 r.2]) ∧ fH fo w' M wz r.1.frames ∧ fH (qj aM) w' M zx r.1.cells) := by
 refine aS (args := [va]) Tryz.func29 rfl Tryz.ntmps29 (Nat.le_of_ble_eq_true rfl) ?_
 have h := SH.init hM
 replace h := h.fI 1 ha bN
 have uw := ha.cB
 refine ai (ag (bY h 2 dw fun w b1 h => ae (aj (v := (.int .i64 (0))) rfl) (ah (aa (ai (ai (ag (ae (au (v := va) rfl) ?_))))))))
 obtain ⟨y2, e3, hs⟩ := aQ hs
 refine bA Rh rfl rfl (CU _ _ h.lt va a (h.iI 1 rfl) _ e3) ?_
 rintro _ w ⟨k4, rfl⟩
 refine ⟨_, rfl, ?_⟩
 replace h := h.grow k4
 refine ae (aj (v := (.int .i64 (y2))) rfl) (ah (aa (ai (ag (ae (au (v := (.int .i64 (y2))) rfl) (ae (gu rfl rfl) (ah (aa (aN hs rfl (fun c5 hs => ?_) (fun c5 hs => ?_))))))))))
 refine ai (ag (ae (dV (pv := []) (out := [(.slice none 0 0), (.slice none 0 0), (.int .i64 (0)), (.int .i64 (0))]) wm rfl rfl) (ae (au (v := (.int .i64 (y2))) rfl) (dB (vs := [(.slice none 0 0), (.slice none 0 0), (.int .i64 (0)), (.int .i64 (0))]) h 2 [(.slice none 0 0), (.slice none 0 0), (.int .i64 (0)), (.int .i64 (0))] rfl dw rfl rfl rfl rfl rfl (ay rfl (ay rfl (ay rfl (ay rfl bg)))) fun w h => ae (aj (v := (.int .i64 (y2))) rfl) (ah (aa (aK (aC (j3 (vs := [(.slice none 0 0), (.slice none 0 0), (.int .i64 (0)), (.int .i64 (0))]) (v2 := (.int .i64 (y2))) Tryz.results29 rfl rfl h 2 rfl dw rfl ?_)))))))))
 obtain rfl := Option.some.inj hs
 exact ⟨h.grown, _, _, rfl, gL.nil, gL.nil⟩
 refine aG (aa (ai (ag (ae (au (v := va) rfl) ?_))))
 obtain ⟨x6, e7, hs⟩ := aQ hs
 obtain ⟨b9, o10, cs11, h, Y7, i8⟩ := h.xD 1 3 rfl jI rfl (aI e7).1 (aI e7).2
 obtain ⟨Ma, rfl, g14⟩ := nN Y7
 replace h := h.di 4 g14.up
 refine ae (i8 _ _ _ _ _ _ _ _ _ rfl rfl) (ae (ak yM rfl) (ae (eO (k := 1) h 3 rfl aZ rfl rfl) ?_))
 obtain ⟨a16, hs⟩ := bM hs
 refine xI (R := aM) (zs := [(.int .i64 (0)), (.int .i64 (0))]) (a := (⟨0, 0⟩ : Val)) h 5 uk bV rfl (by decide) rfl rfl a16 rfl (fun _ _ => rfl) fun w Fb h u15k u15f => ae (dV (pv := [(2, Fb)]) (out := [(.int .i64 (0)), (.int .i64 (0)), Fb, (.int .i64 (0))]) F5 rfl ⟨2, 1, [Fb], rfl, (jh (h.dJ 5 rfl).one), rfl, Nat.le_of_ble_eq_true rfl, rfl⟩) ?_
 replace h := h.freeze 5 rfl
 refine tJ (R := fo) (vs := [(.agg #[(.int .i64 (0)), (.int .i64 (0)), Fb, (.int .i64 (0))])]) (xs := [(⟨0, 0, (List.replicate x6.regs.toNat (⟨0, 0⟩ : Val)), 0⟩ : LX.Frame)]) h 6 pJ rfl rfl rfl ⟨⟨_, rfl, (h.iq 5 rfl)⟩, trivial⟩ rfl fun w Fw h => ae (dV (pv := [(0, Fw)]) (out := [Fw, (.slice none 0 0), (.int .i64 (0)), (.int .i64 (0))]) wm rfl ⟨0, 1, [Fw], rfl, (jh (h.dJ 6 rfl).one), rfl, Nat.le_of_ble_eq_true rfl, rfl⟩) (dB (vs := [Fw, (.slice none 0 0), (.int .i64 (0)), (.int .i64 (0))]) h 2 [Fw, (.slice none 0 0), (.int .i64 (0)), (.int .i64 (0))] rfl dw rfl rfl rfl rfl rfl (ay (h.dJ 6 rfl).one (ay rfl (ay rfl (ay rfl bg)))) fun w h => ae (aj (v := (.int .i64 (0))) rfl) (ah (aa (aK (j3 (vs := [Fw, (.slice none 0 0), (.int .i64 (0)), (.int .i64 (0))]) (v2 := (.int .i64 (0))) Tryz.results29 rfl rfl h 2 rfl dw rfl ?_)))))
 replace h := h.freeze 6 rfl
 obtain rfl := Option.some.inj hs
 exact ⟨h.grown, _, _, rfl, h.QG 6 rfl, gL.nil⟩
def df (a : Val) (b : Int) : Int :=
  bif decide ((a.kind : Int) = 0) then bif decide ((a.n : Int) ≠ 0) then 4 else 0 else bif decide ((a.kind : Int) = 1) then bif (decide ((a.n : Int) < -1000000000) || decide ((1000000000 : Int) < a.n)) then 3 else 0 else bif decide ((a.kind : Int) = 2) then bif (decide ((a.n : Int) < 0) || decide ((b : Int) ≤ a.n)) then 5 else 0 else 4
theorem yX (w0 : World) (M : BS) (hM : ∀ b, M b → b < w0.heap.size) (a : Val) (b : Int) (r : Int) (hs : df a b = r) :
    Calls Tryz.prog 81 #[(.agg #[(.int .i64 (a.kind)), (.int .i64 (a.n))]), (.int .i64 (b))] w0 (fun e w' => Grow w0 w' ∧ e = .returned (.int .i64 r)) := by
 refine aS (args := [(.agg #[(.int .i64 (a.kind)), (.int .i64 (a.n))]), (.int .i64 (b))]) Tryz.func81 rfl Tryz.ntmps81 (Nat.le_of_ble_eq_true rfl) ?_
 have h := SH.init hM
 refine ai (ag (oD (cs := [(.int .i64 (a.kind)), (.int .i64 (a.n))]) h 1 rfl rfl fun w b1 h => ae (aj (v := (.int .i64 (0))) rfl) (ah (aa (ai (ai (ag (ae (ak nP rfl) (ae (aD h 1 rfl aZ rfl rfl) (ah (aa (aU (ai (ag (ae (bJ rfl rfl) (ae (aj (v := (.bool (decide ((a.kind : Int) = 0)))) rfl) (ah (aa (aN hs rfl (fun c2 hs => ?_) (fun c2 hs => ?_))))))))))))))))))))
 refine ai (ag (ae (ak gM rfl) (ae (aD h 1 rfl aZ rfl rfl) (ae (gu rfl rfl) (ah (aa (aN hs rfl (fun c3 hs => ?_) (fun c3 hs => ?_))))))))
 refine ai (ag (ae (aj (v := (.int .i64 (4))) rfl) (ah (aa (aK (aH (aC (cu (v := (.int .i64 (4))) Tryz.results81 rfl ?_))))))))
 obtain rfl := hs
 exact ⟨h.grown, rfl⟩
 refine aG (aA (aa (ai (ag (ae (aj (v := (.int .i64 (0))) rfl) (ah (aa (aK (cu (v := (.int .i64 (0))) Tryz.results81 rfl ?_)))))))))
 obtain rfl := hs
 exact ⟨h.grown, rfl⟩
 refine ai (ag (ae (bJ rfl rfl) (ae (aj (v := (.bool (decide ((a.kind : Int) = 1)))) rfl) (ah (aa (aN hs rfl (fun c4 hs => ?_) (fun c4 hs => ?_)))))))
 refine ai (ag (ae (ak gM rfl) (ae (aD h 1 rfl aZ rfl rfl) (ae (dS rfl rfl) (ae (au (v := (.bool (decide ((a.n : Int) < -1000000000)))) rfl) (aF rfl rfl (fun q => ak gM rfl) (aF rfl rfl (fun q => aD h 1 rfl aZ (dA q) rfl) (aF rfl rfl (fun q => j6 (dA q) rfl) (ae (ic rfl rfl ma) (ah (aa (aN hs rfl (fun c5 hs => ?_) (fun c5 hs => ?_)))))))))))))
 refine ai (ag (ae (aj (v := (.int .i64 (3))) rfl) (ah (aa (aK (aH (aC (cu (v := (.int .i64 (3))) Tryz.results81 rfl ?_))))))))
 obtain rfl := hs
 exact ⟨h.grown, rfl⟩
 refine aG (aA (aa (ai (ag (ae (aj (v := (.int .i64 (0))) rfl) (ah (aa (aK (cu (v := (.int .i64 (0))) Tryz.results81 rfl ?_)))))))))
 obtain rfl := hs
 exact ⟨h.grown, rfl⟩
 refine ai (ag (ae (bJ rfl rfl) (ae (aj (v := (.bool (decide ((a.kind : Int) = 2)))) rfl) (ah (aa (aN hs rfl (fun c6 hs => ?_) (fun c6 hs => ?_)))))))
 refine ai (ag (ae (ak gM rfl) (ae (aD h 1 rfl aZ rfl rfl) (ae (dS rfl rfl) (ae (au (v := (.bool (decide ((a.n : Int) < 0)))) rfl) (aF rfl rfl (fun q => ak gM rfl) (aF rfl rfl (fun q => aD h 1 rfl aZ (dA q) rfl) (aF rfl rfl (fun q => au (v := (.int .i64 (b))) rfl) (aF rfl rfl (fun q => oZ (dA q) (dA q)) (ae (ic rfl rfl ma) (ah (aa (aN hs rfl (fun c7 hs => ?_) (fun c7 hs => ?_))))))))))))))
 refine ai (ag (ae (aj (v := (.int .i64 (5))) rfl) (ah (aa (aK (aH (aC (cu (v := (.int .i64 (5))) Tryz.results81 rfl ?_))))))))
 obtain rfl := hs
 exact ⟨h.grown, rfl⟩
 refine aG (aA (aa (ai (ag (ae (aj (v := (.int .i64 (0))) rfl) (ah (aa (aK (cu (v := (.int .i64 (0))) Tryz.results81 rfl ?_)))))))))
 obtain rfl := hs
 exact ⟨h.grown, rfl⟩
 refine ai (ag (ae (aj (v := (.int .i64 (4))) rfl) (ah (aa (aK (aH (aC (cu (v := (.int .i64 (4))) Tryz.results81 rfl ?_))))))))
 obtain rfl := hs
 exact ⟨h.grown, rfl⟩
def gX (a : List (List Val)) (yY : Val) (s : Unit) (Rq : Unit → Int) : Int :=
  bif decide (((df yY (a.length : Int)) : Int) ≠ 0) then (df yY (a.length : Int)) else Rq ()
def gG (Fa : Unit → Int) (s : Unit) : Int :=
  Fa ()
def iT (a : List (List Val)) (x4 : List Val) (s : Unit) (Fa : Unit → Int) : Int :=
  bif (decide (((x4.length : Int) : Int) = 0) || decide ((4 : Int) < (x4.length : Int))) then 2 else each (gX a) (gG Fa) x4 ()
def gY (s : Unit) : Int :=
  0
def dL (a : List (List Val)) : Int :=
  bif decide ((24 : Int) < (a.length : Int)) then 2 else each (iT a) gY a ()
theorem zn (w0 : World) (M : BS) (hM : ∀ b, M b → b < w0.heap.size) (va : Value) (a : List (List Val)) (ha : gL (qj aM) w0 BE M va a) (r : Int) (hs : dL a = r) :
    Calls Tryz.prog 80 #[va] w0 (fun e w' => Grow w0 w' ∧ e = .returned (.int .i64 r)) := by
 refine aS (args := [va]) Tryz.func80 rfl Tryz.ntmps80 (Nat.le_of_ble_eq_true rfl) ?_
 have h := SH.init hM
 replace h := h.fI 1 ha bN
 have uw := ha.cB
 refine ai (ag (ae (aj (v := (.int .i64 (0))) rfl) (ah (aa (ai (ai (ag (ae (au (v := va) rfl) (ae (bW dZ rfl (h.iI 1 rfl)) (ae (j6 rfl rfl) (ah (aa (aN hs rfl (fun c1 hs => ?_) (fun c1 hs => ?_))))))))))))))
 refine ai (ag (ae (aj (v := (.int .i64 (2))) rfl) (ah (aa (aK (aC (cu (v := (.int .i64 (2))) Tryz.results80 rfl ?_)))))))
 obtain rfl := hs
 exact ⟨h.grown, rfl⟩
 refine aG (aa (ai (ai (ag (ae (au (v := va) rfl) (ae (bW dZ rfl (h.iI 1 rfl)) (ae (au (v := (.int .i64 (0))) rfl) (ah (aa (aU (gP (σ := Nat × Int) (inl [2, 4, 6, 7, 13, 14, 15, 16, 17, 18, 19, 20, 21, 22, 23, 24, 25, 26, 27, 28, 29, 30, 31, 32, 33, 34, 35, 36, 37, 38, 39]) (fun ⟨k2, i3⟩ => [(13, (.int .i64 (i3)))]) (fun ⟨k2, i3⟩ w => SH w0 M BE w (hset [(1, .sr (qj aM) va a)]) ∧ i3 = (k2 : Int) ∧ each (iT a) gY (a.drop k2) () = r) (fun ⟨k2, i3⟩ => a.length - k2) ⟨0, 0⟩ ⟨rfl, trivial⟩ ?_ ?_)))))))))))
 exact ⟨h.cn _, rfl, hs⟩
 rintro ⟨k2, i3⟩ w dD ⟨h, hik, hs⟩
 refine ai (ag ?_)
 refine ae (dS rfl rfl) (ah (aa ?_))
 refine ai (iJ rfl (fun e7 => ?_) (fun e7 => ?_))
 refine aG (aa ?_)
 obtain ⟨x4, WN, WO⟩ := gy (hik ▸ e7)
 rw [WO, dW] at hs
 generalize F6 : each (iT a) gY (a.drop (k2 + 1)) = Fa at hs
 have Rt := gD ((h.iI 1 rfl)).cB hik e7
 refine ai (aU (ai (ag ?_)))
 obtain ⟨b10, o11, WQ, h, WR, i9⟩ := h.xD 1 2 rfl dZ rfl (iU hik) (gB hik WN)
 obtain ⟨IB, rfl, g15⟩ := WR
 replace h := h.di 3 g15.up
 refine ae (i9 _ _ _ _ _ _ _ _ _ rfl rfl) (ae (eO (k := 0) h 2 rfl kg rfl rfl) (ae (aj (v := IB) rfl) (ah (aa (ai (ai (ag (ae (au (v := IB) rfl) (ae (bW bK rfl (h.mH 3 rfl)) (ae (bJ rfl rfl) (ae (au (v := (.bool (decide (((x4.length : Int) : Int) = 0)))) rfl) (aF rfl rfl (fun q => au (v := IB) rfl) (aF rfl rfl (fun q => bW bK (dA q) (h.mH 3 rfl)) (aF rfl rfl (fun q => j6 (dA q) rfl) (ae (ic rfl rfl ma) (ah (aa (aN hs rfl (fun c16 hs => ?_) (fun c16 hs => ?_)))))))))))))))))))
 refine ai (ag (ae (aj (v := (.int .i64 (2))) rfl) (ah (aa (aK (aC (aH (aC (aC (aH (aC (cu (v := (.int .i64 (2))) Tryz.results80 rfl ?_))))))))))))
 obtain rfl := hs
 exact ⟨h.grown, rfl⟩
 refine aG (aa (ai (ag (ae (au (v := IB) rfl) (ae (bW bK rfl (h.mH 3 rfl)) (ae (au (v := (.int .i64 (0))) rfl) (ah (aa (aU (gP (σ := Nat × Int) (inl [2, 6, 7, 27, 28, 29, 30, 31, 32, 33, 34, 35, 36, 37, 38]) (fun ⟨k17, i18⟩ => [(27, (.int .i64 (i18)))]) (fun ⟨k17, i18⟩ w => SH w0 M BE w (hset [(1, .sr (qj aM) va a), (3, .rd aM IB x4)]) ∧ i18 = (k17 : Int) ∧ each (gX a) (gG Fa) (x4.drop k17) () = r) (fun ⟨k17, i18⟩ => x4.length - k17) ⟨0, 0⟩ ⟨rfl, trivial⟩ ?_ ?_))))))))))
 exact ⟨h.cn _, rfl, hs⟩
 rintro ⟨k17, i18⟩ w dD ⟨h, hik, hs⟩
 refine ai (ag ?_)
 refine ae (dS rfl rfl) (ah (aa ?_))
 refine ai (iJ rfl (fun e22 => ?_) (fun e22 => ?_))
 refine aG (aa ?_)
 obtain ⟨yY, e23a, e23b⟩ := gy (hik ▸ e22)
 rw [e23b, dW] at hs
 generalize Rs : each (gX a) (gG Fa) (x4.drop (k17 + 1)) = Rq at hs
 have e23r := gD ((h.mH 3 rfl)).cB hik e22
 refine ai (aU (ai (ag ?_)))
 obtain ⟨b25, o26, cs27, h, r28, i24⟩ := h.Dm 3 4 rfl bK rfl (iU hik) (gB hik e23a)
 obtain rfl := r28
 refine ae (i24 _ _ _ _ _ _ _ _ _ rfl rfl) (ae (jg (k := 0) (vs := [(.int .i64 (yY.kind)), (.int .i64 (yY.n))]) h 4 rfl bV rfl rfl rfl (Nat.le_of_ble_eq_true rfl)) (bY h 5 bV fun w b29 h => dB (vs := [(.int .i64 (yY.kind)), (.int .i64 (yY.n))]) h 5 [(.int .i64 (yY.kind)), (.int .i64 (yY.n))] rfl bV rfl rfl rfl rfl rfl (ay rfl (ay rfl bg)) fun w h => ah (aa (ai (ag (ae (dE (vs := [(.int .i64 (yY.kind)), (.int .i64 (yY.n))]) h 5 rfl bV rfl rfl rfl) (ae (au (v := va) rfl) (ae (bW dZ rfl (h.iI 1 rfl)) (bA MB rfl rfl (yX _ _ h.lt yY (a.length : Int) _ rfl) ?_)))))))))
 rintro _ w ⟨Y8, rfl⟩
 refine ⟨_, rfl, ?_⟩
 replace h := h.grow Y8
 refine ae (aj (v := (.int .i64 ((df yY (a.length : Int))))) rfl) (ah (aa (ai (ag (ae (au (v := (.int .i64 ((df yY (a.length : Int))))) rfl) (ae (gu rfl rfl) (ah (aa (aN hs rfl (fun c31 hs => ?_) (fun c31 hs => ?_))))))))))
 refine ai (ag (ae (au (v := (.int .i64 ((df yY (a.length : Int))))) rfl) (ae (aj (v := (.int .i64 ((df yY (a.length : Int))))) rfl) (ah (aa (aK (aH (aC (aC (aH (aH (aC (aC (aH (aC (cu (v := (.int .i64 ((df yY (a.length : Int))))) Tryz.results80 rfl ?_))))))))))))))))
 obtain rfl := hs
 exact ⟨h.grown, rfl⟩
 refine aG (aA (aa (ag (ae (dH rfl rfl e23r) (ae (au (v := (.int .i64 ((i18 + 1)))) rfl) (ah (az ?_)))))))
 subst Rs
 exact jN ⟨k17 + 1, i18 + 1⟩ ⟨h.cn _, by omega, hs⟩ (by have := of_decide_eq_true e22; dsimp only; omega)
 rw [gz (hik ▸ e22), iw] at hs
 refine dh (aO (aO (bE (aA (aa (ag (ae (dH rfl rfl Rt) (ae (au (v := (.int .i64 ((i3 + 1)))) rfl) (ah (az ?_))))))))))
 subst F6
 exact jN ⟨k2 + 1, i3 + 1⟩ ⟨h.cn _, by omega, hs⟩ (by have := of_decide_eq_true e7; dsimp only; omega)
 rw [gz (hik ▸ e7), iw] at hs
 refine dh (aO (aO (bE (aa (ai (ag (ae (aj (v := (.int .i64 (0))) rfl) (ah (aa (aK (cu (v := (.int .i64 (0))) Tryz.results80 rfl ?_)))))))))))
 obtain rfl := hs
 exact ⟨h.grown, rfl⟩
def mo (b : LX.State) (x38 : Val) (s : Unit) (R9 : Unit → Option Int) : Option Int :=
  bif decide (((df x38 (b.cells.length : Int)) : Int) ≠ 0) then some (df x38 (b.cells.length : Int)) else R9 ()
def mq (Gl : Unit → Option Int) (s : Unit) : Option Int :=
  Gl ()
def qx (x9 : LX.Frame) (wW : dx) (b : LX.State) (Gl : Unit → Option Int) (yR : Bool) : Option Int :=
  bif yR then some 3 else bif decide (((x9.regs.length : Int) : Int) ≠ wW.regs) then some 4 else each (mo b) (mq Gl) x9.regs ()
def qy (a : List dx) (b : LX.State) (i8 : Int) (x9 : LX.Frame) (s : Unit) (Gl : Unit → Option Int) : Option Int :=
  bif (decide ((x9.proc : Int) < 0) || decide (((a.length : Int) : Int) ≤ x9.proc)) then some 5 else (idx a x9.proc).bind fun wW => bif (((decide ((x9.at_ : Int) < 0) || decide (((wW.code.length : Int) : Int) ≤ x9.at_)) || decide ((x9.kG : Int) < 0)) || (decide ((i8 : Int) = 0) && decide ((x9.kG : Int) ≠ 0))) then qx x9 wW b Gl true else bif decide ((0 : Int) < i8) then ib (jO (i8 - 1)) ((idx b.frames (i8 - 1)).bind fun x54 => qx x9 wW b Gl (decide (((x54.regs.length : Int) : Int) ≤ x9.kG))) else qx x9 wW b Gl false
def sN (s : Unit) : Option Int :=
  some 0
def wB (a : List dx) (b : LX.State) : Option Int :=
  bif (((decide ((b.status : Int) < 0) || decide ((3 : Int) < b.status)) || decide ((b.aV : Int) < -1000000000)) || decide ((1000000000 : Int) < b.aV)) then some 3 else bif ((decide ((b.status : Int) ≠ 3) && decide ((b.aV : Int) ≠ 0)) || (decide ((b.status : Int) = 1) != decide (((b.frames.length : Int) : Int) = 0))) then some 4 else bif decide ((10 : Int) < (b.frames.length : Int)) then some 2 else bif decide (((dL b.cells) : Int) ≠ 0) then some (dL b.cells) else dU (qy a b) sN 0 b.frames ()
theorem Nc (w0 : World) (M : BS) (hM : ∀ b, M b → b < w0.heap.size) (va : Value) (a : List dx) (ha : gL kF w0 BE M va a) (b : LX.State) (vb0 vb1 : Value) (hb0 : gL fo w0 BE M vb0 b.frames) (hb1 : gL (qj aM) w0 BE M vb1 b.cells) (r : Int) (hs : wB a b = some r) :
    Calls Tryz.prog 64 #[va, (.agg #[vb0, vb1, (.int .i64 (b.status)), (.int .i64 (b.aV))])] w0 (fun e w' => Grow w0 w' ∧ e = .returned (.int .i64 r)) := by
 refine aS (args := [va, (.agg #[vb0, vb1, (.int .i64 (b.status)), (.int .i64 (b.aV))])]) Tryz.func64 rfl Tryz.ntmps64 (Nat.le_of_ble_eq_true rfl) ?_
 have h := SH.init hM
 replace h := h.fI 1 ha bN
 replace h := h.fI 2 hb0 (dn bN)
 replace h := h.fI 3 hb1 (dn (dn bN))
 have uw := ha.cB
 refine ai (ag (oD (cs := [vb0, vb1, (.int .i64 (b.status)), (.int .i64 (b.aV))]) h 4 rfl rfl fun w b1 h => ae (aj (v := (.int .i64 (0))) rfl) (ah (aa (ai (ai (ag (ae (ak nO rfl) (ae (aD h 4 rfl aZ rfl rfl) (ae (dS rfl rfl) (ae (au (v := (.bool (decide ((b.status : Int) < 0)))) rfl) (aF rfl rfl (fun q => ak nO rfl) (aF rfl rfl (fun q => aD h 4 rfl aZ (dA q) rfl) (aF rfl rfl (fun q => j6 (dA q) rfl) (ae (ic rfl rfl ma) (ae (au (v := (.bool ((decide ((b.status : Int) < 0) || decide ((3 : Int) < b.status))))) rfl) (aF rfl rfl (fun q => ak vG rfl) (aF rfl rfl (fun q => aD h 4 rfl aZ (dA q) rfl) (aF rfl rfl (fun q => dS (dA q) rfl) (ae (ic rfl rfl ma) (ae (au (v := (.bool (((decide ((b.status : Int) < 0) || decide ((3 : Int) < b.status)) || decide ((b.aV : Int) < -1000000000))))) rfl) (aF rfl rfl (fun q => ak vG rfl) ?_))))))))))))))))))))))
 refine aF rfl rfl (fun q => aD h 4 rfl aZ (dA q) rfl) (aF rfl rfl (fun q => j6 (dA q) rfl) (ae (ic rfl rfl ma) (ah (aa (aN hs rfl (fun c2 hs => ?_) (fun c2 hs => ?_))))))
 refine ai (ag (ae (aj (v := (.int .i64 (3))) rfl) (ah (aa (aK (aC (cu (v := (.int .i64 (3))) Tryz.results64 rfl ?_)))))))
 obtain rfl := Option.some.inj hs
 exact ⟨h.grown, rfl⟩
 refine aG (aa (ai (ai (ag (ae (ak nO rfl) (ae (aD h 4 rfl aZ rfl rfl) (ae (gu rfl rfl) (ae (au (v := (.bool (decide ((b.status : Int) ≠ 3)))) rfl) (aF rfl rfl (fun q => ak vG rfl) (aF rfl rfl (fun q => aD h 4 rfl aZ (dA q) rfl) (aF rfl rfl (fun q => gu (dA q) rfl) (ae (fV rfl rfl ma) (ae (au (v := (.bool ((decide ((b.status : Int) ≠ 3) && decide ((b.aV : Int) ≠ 0))))) rfl) (aF rfl rfl (fun q => ak nO rfl) (aF rfl rfl (fun q => aD h 4 rfl aZ (dA q) rfl) (aF rfl rfl (fun q => bJ (dA q) rfl) (aF rfl rfl (fun q => ak dY rfl) (aF rfl rfl (fun q => aD h 4 rfl iR (dA q) rfl) (aF rfl rfl (fun q => bW dm (dA q) (h.iI 2 rfl)) (aF rfl rfl (fun q => bJ (dA q) rfl) (aF rfl rfl (fun q => VR Tryz.underlying4 (dA q) (dA q)) (ae (ic rfl rfl ma) (ah ?_)))))))))))))))))))))))
 refine aa (aN hs rfl (fun c3 hs => ?_) (fun c3 hs => ?_))
 refine ai (ag (ae (aj (v := (.int .i64 (4))) rfl) (ah (aa (aK (aC (cu (v := (.int .i64 (4))) Tryz.results64 rfl ?_)))))))
 obtain rfl := Option.some.inj hs
 exact ⟨h.grown, rfl⟩
 refine aG (aa (ai (ai (ag (ae (ak dY rfl) (ae (aD h 4 rfl iR rfl rfl) (ae (bW dm rfl (h.iI 2 rfl)) (ae (j6 rfl rfl) (ah (aa (aN hs rfl (fun c4 hs => ?_) (fun c4 hs => ?_))))))))))))
 refine ai (ag (ae (aj (v := (.int .i64 (2))) rfl) (ah (aa (aK (aC (cu (v := (.int .i64 (2))) Tryz.results64 rfl ?_)))))))
 obtain rfl := Option.some.inj hs
 exact ⟨h.grown, rfl⟩
 refine aG (aa (ai (ai (ag (ae (ak iW rfl) (ae (aD h 4 rfl mg rfl rfl) (bA Ri rfl rfl (zn _ _ h.lt vb1 b.cells (h.iI 3 rfl) _ rfl) ?_)))))))
 rintro _ w ⟨k5, rfl⟩
 refine ⟨_, rfl, ?_⟩
 replace h := h.grow k5
 refine ae (aj (v := (.int .i64 ((dL b.cells)))) rfl) (ah (aa (ai (ag (ae (au (v := (.int .i64 ((dL b.cells)))) rfl) (ae (gu rfl rfl) (ah (aa (aN hs rfl (fun c6 hs => ?_) (fun c6 hs => ?_))))))))))
 refine ai (ag (ae (au (v := (.int .i64 ((dL b.cells)))) rfl) (ae (aj (v := (.int .i64 ((dL b.cells)))) rfl) (ah (aa (aK (aC (cu (v := (.int .i64 ((dL b.cells)))) Tryz.results64 rfl ?_))))))))
 obtain rfl := Option.some.inj hs
 exact ⟨h.grown, rfl⟩
 refine aG (aa (ai (ai (ag (ae (ak dY rfl) (ae (aD h 4 rfl iR rfl rfl) (ae (bW dm rfl (h.iI 2 rfl)) (ae (au (v := (.int .i64 (0))) rfl) (ah (aa (aU (gP (σ := Nat × Int) (inl [4, 6, 7, 8, 10, 11, 61, 62, 63, 64, 65, 66, 67, 68, 69, 70, 71, 72, 73, 74, 75, 76, 77, 78, 79, 80, 81, 82, 83, 84, 85, 86, 87, 88, 89, 90, 91, 92, 93, 94, 95, 96, 97, 98, 99, 100, 101, 102, 103, 104, 105, 106, 107, 108, 109, 110, 111, 112, 113, 114, 115, 116, 117, 118, 119, 120, 121, 122, 123, 124, 125, 126, 127, 128, 129, 130, 131, 132, 133, 134, 135, 136, 137, 138, 139, 140, 141, 142, 143, 144, 145]) (fun ⟨k7, i8⟩ => [(61, (.int .i64 (i8)))]) (fun ⟨k7, i8⟩ w => SH w0 M BE w (hset [(1, .sr kF va a), (2, .sr fo vb0 b.frames), (3, .sr (qj aM) vb1 b.cells), (4, .blk b1 [vb0, vb1, (.int .i64 (b.status)), (.int .i64 (b.aV))])]) ∧ i8 = (k7 : Int) ∧ dU (qy a b) sN i8 (b.frames.drop k7) () = some r) (fun ⟨k7, i8⟩ => b.frames.length - k7) ⟨0, 0⟩ ⟨rfl, trivial⟩ ?_ ?_))))))))))))
 exact ⟨h.cn _, rfl, hs⟩
 rintro ⟨k7, i8⟩ w dD ⟨h, hik, hs⟩
 refine ai (ag ?_)
 refine ae (dS rfl rfl) (ah (aa ?_))
 refine ai (iJ rfl (fun e12 => ?_) (fun e12 => ?_))
 refine aG (aa ?_)
 obtain ⟨x9, e13a, e13b⟩ := gy (hik ▸ e12)
 rw [e13b, gU] at hs
 generalize ZJ : dU (qy a b) sN (i8 + 1) (b.frames.drop (k7 + 1)) = Gl at hs
 have e13r := gD ((h.iI 2 rfl)).cB hik e12
 refine ai (aU (ai (ag (ae (au (v := (.int .i64 (i8))) rfl) ?_))))
 obtain ⟨b15, o16, cs17, h, r18, i14⟩ := h.xD 2 5 rfl dm rfl (iU hik) (gB hik e13a)
 obtain ⟨KN, rfl, g20⟩ := ry r18
 replace h := h.di 6 g20.up
 refine ae (i14 _ _ _ _ _ _ _ _ _ rfl rfl) (ae (jg (k := 0) (vs := [(.int .i64 (x9.proc)), (.int .i64 (x9.at_)), KN, (.int .i64 (x9.kG))]) h 5 rfl iy rfl rfl rfl (Nat.le_of_ble_eq_true rfl)) (bY h 7 iy fun w Hz h => ae (aj (v := (.int .i64 (i8))) rfl) (dB (vs := [(.int .i64 (x9.proc)), (.int .i64 (x9.at_)), KN, (.int .i64 (x9.kG))]) h 7 [(.int .i64 (x9.proc)), (.int .i64 (x9.at_)), KN, (.int .i64 (x9.kG))] rfl iy rfl rfl rfl rfl rfl (ay rfl (ay rfl (ay (h.iq 6 rfl).one (ay rfl bg)))) fun w h => ah (aa (ai (ai (ag (ae (ak tX rfl) (ae (aD h 7 rfl aZ rfl rfl) (ae (dS rfl rfl) (ae (au (v := (.bool (decide ((x9.proc : Int) < 0)))) rfl) (aF rfl rfl (fun q => ak tX rfl) (aF rfl rfl (fun q => aD h 7 rfl aZ (dA q) rfl) (aF rfl rfl (fun q => au (v := va) rfl) (aF rfl rfl (fun q => bW jI (dA q) (h.iI 1 rfl)) (aF rfl rfl (fun q => oZ (dA q) (dA q)) (ae (ic rfl rfl ma) (ah (aa (aN hs rfl (fun c22 hs => ?_) (fun c22 hs => ?_)))))))))))))))))))))
 refine ai (ag (ae (aj (v := (.int .i64 (5))) rfl) (ah (aa (aK (aC (aH (aC (aC (aH (aC (cu (v := (.int .i64 (5))) Tryz.results64 rfl ?_))))))))))))
 obtain rfl := Option.some.inj hs
 exact ⟨h.grown, rfl⟩
 refine aG (aa (ai (ag (ae (au (v := va) rfl) (ae (ak tX rfl) (ae (aD h 7 rfl aZ rfl rfl) ?_))))))
 obtain ⟨wW, e24, hs⟩ := aQ hs
 obtain ⟨WM, o27, UG, h, Xj, i25⟩ := h.xD 1 8 rfl jI rfl (aI e24).1 (aI e24).2
 obtain ⟨u30, rfl, g31⟩ := nN Xj
 replace h := h.di 9 g31.up
 refine ae (i25 _ _ _ _ _ _ _ _ _ rfl rfl) (ae (jg (k := 0) (vs := [(.int .i64 (wW.params)), (.int .i64 (wW.regs)), u30]) h 8 rfl uV rfl rfl rfl (Nat.le_of_ble_eq_true rfl)) (bY h 10 uV fun w b32 h => dB (vs := [(.int .i64 (wW.params)), (.int .i64 (wW.regs)), u30]) h 10 [(.int .i64 (wW.params)), (.int .i64 (wW.regs)), u30] rfl uV rfl rfl rfl rfl rfl (ay rfl (ay rfl (ay (h.iq 9 rfl).one bg))) fun w h => ah (aa (ai (cz (σ := Bool) (inl [81, 82, 83, 84, 85, 86, 87, 88, 89, 90, 91, 92, 93, 94, 95, 96, 97, 98, 99, 100, 101, 102, 103, 104, 105, 106, 107, 108, 109, 110, 111, 112, 113, 114, 115, 116, 117, 118, 119, 120, 121, 122]) (fun yR => [(98, (gv (((decide ((x9.at_ : Int) < 0) || decide (((wW.code.length : Int) : Int) ≤ x9.at_)) || decide ((x9.kG : Int) < 0)) == false) (.int .i64 (i8)))), (100, (gv (((decide ((x9.at_ : Int) < 0) || decide (((wW.code.length : Int) : Int) ≤ x9.at_)) || decide ((x9.kG : Int) < 0)) == false) (.bool (decide ((i8 : Int) = 0))))), (122, (.bool (yR)))]) (fun yR w => SH w0 M BE w (hset [(1, .sr kF va a), (2, .sr fo vb0 b.frames), (3, .sr (qj aM) vb1 b.cells), (4, .blk b1 [vb0, vb1, (.int .i64 (b.status)), (.int .i64 (b.aV))]), (6, .rd aM KN x9.regs), (7, .blk Hz [(.int .i64 (x9.proc)), (.int .i64 (x9.at_)), KN, (.int .i64 (x9.kG))]), (9, .rd jD u30 wW.code), (10, .blk b32 [(.int .i64 (wW.params)), (.int .i64 (wW.regs)), u30])]) ∧ qx x9 wW b Gl yR = some r) ?_ ?_)))))
 rintro yR w dD ⟨h, hs⟩
 refine aN hs rfl (fun c34 hs => ?_) (fun c34 hs => ?_)
 refine ai (ag (ae (aj (v := (.int .i64 (3))) rfl) (ah (aa (aK (aC (aH (aC (aC (aH (aC (cu (v := (.int .i64 (3))) Tryz.results64 rfl ?_))))))))))))
 obtain rfl := Option.some.inj hs
 exact ⟨h.grown, rfl⟩
 refine aG (aa (ai (ai (ag (ae (ak jW rfl) (ae (aD h 7 rfl kg rfl rfl) (ae (bW bK rfl (h.mH 6 rfl)) (ae (ak yM rfl) (ae (aD h 10 rfl aZ rfl rfl) (ae (gu rfl rfl) (ah (aa (aN hs rfl (fun WV hs => ?_) (fun WV hs => ?_))))))))))))))
 refine ai (ag (ae (aj (v := (.int .i64 (4))) rfl) (ah (aa (aK (aC (aH (aC (aC (aH (aC (cu (v := (.int .i64 (4))) Tryz.results64 rfl ?_))))))))))))
 obtain rfl := Option.some.inj hs
 exact ⟨h.grown, rfl⟩
 refine aG (aa (ai (ag (ae (ak jW rfl) (ae (aD h 7 rfl kg rfl rfl) (ae (bW bK rfl (h.mH 6 rfl)) (ae (au (v := (.int .i64 (0))) rfl) (ah (aa (aU (gP (σ := Nat × Int) (inl [4, 10, 11, 132, 133, 134, 135, 136, 137, 138, 139, 140, 141, 142, 143, 144]) (fun ⟨Vw, i37⟩ => [(132, (.int .i64 (i37)))]) (fun ⟨Vw, i37⟩ w => SH w0 M BE w (hset [(1, .sr kF va a), (2, .sr fo vb0 b.frames), (3, .sr (qj aM) vb1 b.cells), (4, .blk b1 [vb0, vb1, (.int .i64 (b.status)), (.int .i64 (b.aV))]), (6, .rd aM KN x9.regs)]) ∧ i37 = (Vw : Int) ∧ each (mo b) (mq Gl) (x9.regs.drop Vw) () = some r) (fun ⟨Vw, i37⟩ => x9.regs.length - Vw) ⟨0, 0⟩ ⟨rfl, trivial⟩ ?_ ?_)))))))))))
 exact ⟨h.cn _, rfl, hs⟩
 rintro ⟨Vw, i37⟩ w dD ⟨h, hik, hs⟩
 refine ai (ag ?_)
 refine ae (dS rfl rfl) (ah (aa ?_))
 refine ai (iJ rfl (fun e41 => ?_) (fun e41 => ?_))
 refine aG (aa ?_)
 obtain ⟨x38, e42a, e42b⟩ := gy (hik ▸ e41)
 rw [e42b, dW] at hs
 generalize Sa : each (mo b) (mq Gl) (x9.regs.drop (Vw + 1)) = R9 at hs
 have e42r := gD ((h.mH 6 rfl)).cB hik e41
 refine ai (aU (ai (ag ?_)))
 obtain ⟨Md, o45, cs46, h, r47, i43⟩ := h.Dm 6 11 rfl bK rfl (iU hik) (gB hik e42a)
 obtain rfl := r47
 refine ae (i43 _ _ _ _ _ _ _ _ _ rfl rfl) (ae (jg (k := 0) (vs := [(.int .i64 (x38.kind)), (.int .i64 (x38.n))]) h 11 rfl bV rfl rfl rfl (Nat.le_of_ble_eq_true rfl)) (bY h 12 bV fun w b48 h => dB (vs := [(.int .i64 (x38.kind)), (.int .i64 (x38.n))]) h 12 [(.int .i64 (x38.kind)), (.int .i64 (x38.n))] rfl bV rfl rfl rfl rfl rfl (ay rfl (ay rfl bg)) fun w h => ah (aa (ai (ag (ae (dE (vs := [(.int .i64 (x38.kind)), (.int .i64 (x38.n))]) h 12 rfl bV rfl rfl rfl) (ae (ak iW rfl) (ae (aD h 4 rfl mg rfl rfl) (ae (bW dZ rfl (h.iI 3 rfl)) (bA MB rfl rfl (yX _ _ h.lt x38 (b.cells.length : Int) _ rfl) ?_))))))))))
 rintro _ w ⟨k49, rfl⟩
 refine ⟨_, rfl, ?_⟩
 replace h := h.grow k49
 refine ae (aj (v := (.int .i64 ((df x38 (b.cells.length : Int))))) rfl) (ah (aa (ai (ag (ae (au (v := (.int .i64 ((df x38 (b.cells.length : Int))))) rfl) (ae (gu rfl rfl) (ah (aa (aN hs rfl (fun c50 hs => ?_) (fun c50 hs => ?_))))))))))
 refine ai (ag (ae (au (v := (.int .i64 ((df x38 (b.cells.length : Int))))) rfl) (ae (aj (v := (.int .i64 ((df x38 (b.cells.length : Int))))) rfl) (ah (aa (aK (aH (aC (aC (aH (aH (aC (aC (aH (aC (cu (v := (.int .i64 ((df x38 (b.cells.length : Int))))) Tryz.results64 rfl ?_))))))))))))))))
 obtain rfl := Option.some.inj hs
 exact ⟨h.grown, rfl⟩
 refine aG (aA (aa (ag (ae (dH rfl rfl e42r) (ae (au (v := (.int .i64 ((i37 + 1)))) rfl) (ah (az ?_)))))))
 subst Sa
 exact jN ⟨Vw + 1, i37 + 1⟩ ⟨h.cn _, by omega, hs⟩ (by have := of_decide_eq_true e41; dsimp only; omega)
 rw [gz (hik ▸ e41), iw] at hs
 refine dh (aO (aO (bE (aA (aa (ag (ae (dH rfl rfl e13r) (ae (au (v := (.int .i64 ((i8 + 1)))) rfl) (ah (az ?_))))))))))
 subst ZJ
 exact jN ⟨k7 + 1, i8 + 1⟩ ⟨h.cn _, by omega, hs⟩ (by have := of_decide_eq_true e12; dsimp only; omega)
 refine xG mixed (by kernel_rfl) h fun w h => aJ (ak qU rfl) (aJ (aD h 7 rfl aZ rfl rfl) (aJ (dS rfl rfl) (aJ (au (v := (.bool (decide ((x9.at_ : Int) < 0)))) rfl) (oL rfl rfl (fun q => ak qU rfl) (oL rfl rfl (fun q => aD h 7 rfl aZ (dA q) rfl) (oL rfl rfl (fun q => ak qV rfl) (oL rfl rfl (fun q => aD h 10 rfl zl (dA q) rfl) (oL rfl rfl (fun q => bW jA (dA q) (h.mH 9 rfl)) (oL rfl rfl (fun q => oZ (dA q) (dA q)) (aJ (ic rfl rfl ma) (aJ (au (v := (.bool ((decide ((x9.at_ : Int) < 0) || decide (((wW.code.length : Int) : Int) ≤ x9.at_))))) rfl) (oL rfl rfl (fun q => ak wV rfl) (oL rfl rfl (fun q => aD h 7 rfl aZ (dA q) rfl) (oL rfl rfl (fun q => dS (dA q) rfl) (aJ (ic rfl rfl ma) (aJ (au (v := (.bool (((decide ((x9.at_ : Int) < 0) || decide (((wW.code.length : Int) : Int) ≤ x9.at_)) || decide ((x9.kG : Int) < 0))))) rfl) (oL rfl rfl (fun q => au (v := (.int .i64 (i8))) rfl) (oL rfl rfl (fun q => bJ (dA q) rfl) (oL rfl rfl (fun q => au (v := (.bool (decide ((i8 : Int) = 0)))) (dA q)) (Cv (((decide ((x9.at_ : Int) < 0) || decide (((wW.code.length : Int) : Int) ≤ x9.at_)) || decide ((x9.kG : Int) < 0)) == false) rfl rfl (fun q => ak wV rfl) (Cv (((decide ((x9.at_ : Int) < 0) || decide (((wW.code.length : Int) : Int) ≤ x9.at_)) || decide ((x9.kG : Int) < 0)) == false) rfl rfl (fun q => aD h 7 rfl aZ (dA q) rfl) (Cv (((decide ((x9.at_ : Int) < 0) || decide (((wW.code.length : Int) : Int) ≤ x9.at_)) || decide ((x9.kG : Int) < 0)) == false) rfl rfl (fun q => gu (dA q) rfl) ?_))))))))))))))))))))))
 refine oL rfl rfl (fun q => fV (dA q) (OU q) ma) (aJ (ic rfl rfl ma) (aJ (au (v := (.bool ((((decide ((x9.at_ : Int) < 0) || decide (((wW.code.length : Int) : Int) ≤ x9.at_)) || decide ((x9.kG : Int) < 0)) || (decide ((i8 : Int) = 0) && decide ((x9.kG : Int) ≠ 0)))))) rfl) (iQ (b := (((decide ((x9.at_ : Int) < 0) || decide (((wW.code.length : Int) : Int) ≤ x9.at_)) || decide ((x9.kG : Int) < 0)) || (decide ((i8 : Int) = 0) && decide ((x9.kG : Int) ≠ 0)))) hs (fun c51 hs => ?_) (fun c51 hs => ?_))))
 refine dG (b' := true) rfl (congrArg Value.bool c51) rfl (dG (b' := true) rfl (congrArg Value.bool c51) rfl (dG (b' := true) rfl (congrArg Value.bool c51) rfl (iL rfl rfl (iL rfl rfl (iL rfl rfl (iL rfl rfl (iL rfl rfl (iL rfl rfl (iL rfl rfl (iL rfl rfl (iL rfl rfl (iL rfl rfl (iL rfl rfl (dG (b' := true) rfl (congrArg Value.bool c51) rfl (aJ (cK (b := true) (v := (.bool (true))) (congrArg Value.bool c51) rfl) (uS (az ?_)))))))))))))))))
 exact bU true ⟨h.cn _, hs⟩
 refine eY rfl (congrArg Value.bool c51) (aJ (au (v := (.int .i64 (i8))) rfl) (eY rfl (congrArg Value.bool c51) (aJ (j6 rfl rfl) (eY rfl (congrArg Value.bool c51) (aJ (au (v := (.bool (decide ((0 : Int) < i8)))) rfl) (iQ (b := decide ((0 : Int) < i8)) hs (fun BA hs => ?_) (fun BA hs => ?_)))))))
 refine eY rfl (congrArg Value.bool BA) (aJ (ak wV rfl) (eY rfl (congrArg Value.bool BA) (aJ (aD h 7 rfl aZ rfl rfl) (eY rfl (congrArg Value.bool BA) (aJ (ak dY rfl) (eY rfl (congrArg Value.bool BA) (aJ (aD h 4 rfl iR rfl rfl) (eY rfl (congrArg Value.bool BA) (aJ (au (v := (.int .i64 (i8))) rfl) (eY rfl (congrArg Value.bool BA) ?_))))))))))
 obtain ⟨a53, hs⟩ := bM hs
 refine aJ (oz rfl rfl a53) (eY rfl (congrArg Value.bool BA) ?_)
 obtain ⟨x54, e55, hs⟩ := aQ hs
 obtain ⟨b57, o58, ZF, h, ZG, i56⟩ := h.xD 2 13 rfl dm rfl (aI e55).1 (aI e55).2
 obtain ⟨u61, rfl, ZH⟩ := ry ZG
 replace h := h.di 14 ZH.up
 refine aJ (i56 _ _ _ _ _ _ _ _ _ rfl rfl) (eY rfl (congrArg Value.bool BA) (aJ (ak jW rfl) (eY rfl (congrArg Value.bool BA) (aJ (eO (k := 2) h 13 rfl kg rfl rfl) (eY rfl (congrArg Value.bool BA) (aJ (bW bK rfl (h.mH 14 rfl)) (eY rfl (congrArg Value.bool BA) (aJ (oZ rfl rfl) (eY rfl (congrArg Value.bool c51) (aJ (cK (b := true) (v := (.bool (decide (((x54.regs.length : Int) : Int) ≤ x9.kG)))) (congrArg Value.bool BA) rfl) (aJ (cK (b := false) (v := (.bool (decide (((x54.regs.length : Int) : Int) ≤ x9.kG)))) (congrArg Value.bool c51) rfl) (uS (az ?_)))))))))))))
 exact bU (decide (((x54.regs.length : Int) : Int) ≤ x9.kG)) ⟨h.cn _, hs⟩
 refine dG (b' := false) rfl (congrArg Value.bool BA) rfl (dG (b' := false) rfl (congrArg Value.bool BA) rfl (dG (b' := false) rfl (congrArg Value.bool BA) rfl (dG (b' := false) rfl (congrArg Value.bool BA) rfl (dG (b' := false) rfl (congrArg Value.bool BA) rfl (dG (b' := false) rfl (congrArg Value.bool BA) rfl (dG (b' := false) rfl (congrArg Value.bool BA) rfl (dG (b' := false) rfl (congrArg Value.bool BA) rfl (dG (b' := false) rfl (congrArg Value.bool BA) rfl (dG (b' := false) rfl (congrArg Value.bool BA) rfl (dG (b' := false) rfl (congrArg Value.bool BA) rfl (eY rfl (congrArg Value.bool c51) (aJ (cK (b := false) (v := (.bool (false))) (congrArg Value.bool BA) rfl) (aJ (cK (b := false) (v := (.bool (false))) (congrArg Value.bool c51) rfl) (uS (az ?_)))))))))))))))
 exact bU false ⟨h.cn _, hs⟩
 rw [gz (hik ▸ e12), kI] at hs
 refine dh (aO (aO (bE (aa (ai (ag (ae (aj (v := (.int .i64 (0))) rfl) (ah (aa (aK (cu (v := (.int .i64 (0))) Tryz.results64 rfl ?_)))))))))))
 obtain rfl := Option.some.inj hs
 exact ⟨h.grown, rfl⟩
def uI (a : List dx) (b : LX.State) : Option Int :=
  (pW a).bind fun y2 => bif decide ((y2 : Int) ≠ 0) then some y2 else (wB a b).bind fun y6 => some y6
theorem wC (w0 : World) (M : BS) (hM : ∀ b, M b → b < w0.heap.size) (va : Value) (a : List dx) (ha : gL kF w0 BE M va a) (b : LX.State) (vb0 vb1 : Value) (hb0 : gL fo w0 BE M vb0 b.frames) (hb1 : gL (qj aM) w0 BE M vb1 b.cells) (r : Int) (hs : uI a b = some r) :
    Calls Tryz.prog 27 #[va, (.agg #[vb0, vb1, (.int .i64 (b.status)), (.int .i64 (b.aV))])] w0 (fun e w' => Grow w0 w' ∧ e = .returned (.int .i64 r)) := by
 refine aS (args := [va, (.agg #[vb0, vb1, (.int .i64 (b.status)), (.int .i64 (b.aV))])]) Tryz.func27 rfl Tryz.ntmps27 (Nat.le_of_ble_eq_true rfl) ?_
 have h := SH.init hM
 replace h := h.fI 1 ha bN
 replace h := h.fI 2 hb0 (dn bN)
 replace h := h.fI 3 hb1 (dn (dn bN))
 have uw := ha.cB
 refine ai (ag (oD (cs := [vb0, vb1, (.int .i64 (b.status)), (.int .i64 (b.aV))]) h 4 rfl rfl fun w b1 h => ae (aj (v := (.int .i64 (0))) rfl) (ah (aa (ai (ai (ag (ae (au (v := va) rfl) ?_))))))))
 obtain ⟨y2, e3, hs⟩ := aQ hs
 refine bA Rh rfl rfl (CU _ _ h.lt va a (h.iI 1 rfl) _ e3) ?_
 rintro _ w ⟨k4, rfl⟩
 refine ⟨_, rfl, ?_⟩
 replace h := h.grow k4
 refine ae (aj (v := (.int .i64 (y2))) rfl) (ah (aa (ai (ag (ae (au (v := (.int .i64 (y2))) rfl) (ae (gu rfl rfl) (ah (aa (aN hs rfl (fun c5 hs => ?_) (fun c5 hs => ?_))))))))))
 refine ai (ag (ae (au (v := (.int .i64 (y2))) rfl) (ae (aj (v := (.int .i64 (y2))) rfl) (ah (aa (aK (aC (cu (v := (.int .i64 (y2))) Tryz.results27 rfl ?_))))))))
 obtain rfl := Option.some.inj hs
 exact ⟨h.grown, rfl⟩
 refine aG (aa (ai (ag (ae (au (v := va) rfl) (ae (dE (vs := [vb0, vb1, (.int .i64 (b.status)), (.int .i64 (b.aV))]) h 4 rfl dw rfl rfl rfl) ?_)))))
 obtain ⟨y6, e7, hs⟩ := aQ hs
 refine bA Wz rfl rfl (Nc _ _ h.lt va a (h.iI 1 rfl) b vb0 vb1 (h.iI 2 rfl) (h.iI 3 rfl) _ e7) ?_
 rintro _ w ⟨k8, rfl⟩
 refine ⟨_, rfl, ?_⟩
 replace h := h.grow k8
 refine ae (aj (v := (.int .i64 (y6))) rfl) (ah (aa (aK (cu (v := (.int .i64 (y6))) Tryz.results27 rfl ?_))))
 obtain rfl := Option.some.inj hs
 exact ⟨h.grown, rfl⟩
theorem pX (w0 : World) (M : BS) (hM : ∀ b, M b → b < w0.heap.size) (va : Value) (a : List LX.Frame) (ha : gL fo w0 BE M va a) (r : List LX.Frame) (hs : clone 48 a = some r) :
    Calls Tryz.prog 83 #[va] w0 (fun e w' => Grow w0 w' ∧ ∃ u0, e = .returned u0 ∧ ek fo 49 w' M u0 r ∧ (∀ b, ob u0 b → w0.heap.size ≤ b)) := by
  obtain ⟨hr, hs⟩ := bM hs
  cases hs
  refine aS (args := [va]) Tryz.func83 rfl Tryz.ntmps83 (Nat.le_of_ble_eq_true rfl) ?_
  have h := (SH.init hM).fI 1 ha bN
  refine ai (ag (ae (aj rfl) (ah (aa ?_))))
  refine ai (ai (ag (ae (au rfl) (ae (Jn dm rfl (h.iI 1 rfl) rfl) (ah (aa ?_))))))
  refine iJ rfl (fun c => ?_) (fun c => ?_)
  · obtain ⟨c1, c2⟩ := yG (h.iI 1 rfl) c
    refine ai (ag (ae (aj rfl) (ah (aa (aK (aC ?_))))))
    refine cu (v := .slice none 0 0) Tryz.results83 rfl ?_
    rw [c2]
    exact ⟨h.grown, _, rfl, ek.nil, l8⟩
  · refine aG (aa ?_)
    refine ai (ag ?_)
    refine tJ (R := fo) (vs := []) (xs := []) h 2 pJ rfl rfl rfl trivial rfl fun w u h => ?_
    refine ae (au rfl) ?_
    refine mO (R := fo) (m := a) h 2 rfl (h.iI 1 rfl) pJ rfl rfl rfl hr.1 hr.2 fun w u h => ?_
    refine ae (aj rfl) (ah (aa (aK ?_)))
    refine cu (v := u) Tryz.results83 rfl ?_
    exact ⟨h.grown, _, rfl, (h.mP 2 rfl).1, (h.mP 2 rfl).2⟩
theorem zy (w0 : World) (M : BS) (hM : ∀ b, M b → b < w0.heap.size) (va : Value) (a : List (List Val)) (ha : gL (qj aM) w0 BE M va a) (r : List (List Val)) (hs : clone 24 a = some r) :
    Calls Tryz.prog 114 #[va] w0 (fun e w' => Grow w0 w' ∧ ∃ u0, e = .returned u0 ∧ ek (qj aM) 47 w' M u0 r ∧ (∀ b, ob u0 b → w0.heap.size ≤ b)) := by
  obtain ⟨hr, hs⟩ := bM hs
  cases hs
  refine aS (args := [va]) Tryz.func114 rfl Tryz.ntmps114 (Nat.le_of_ble_eq_true rfl) ?_
  have h := (SH.init hM).fI 1 ha bN
  refine ai (ag (ae (aj rfl) (ah (aa ?_))))
  refine ai (ai (ag (ae (au rfl) (ae (Jn dZ rfl (h.iI 1 rfl) rfl) (ah (aa ?_))))))
  refine iJ rfl (fun c => ?_) (fun c => ?_)
  · obtain ⟨c1, c2⟩ := yG (h.iI 1 rfl) c
    refine ai (ag (ae (aj rfl) (ah (aa (aK (aC ?_))))))
    refine cu (v := .slice none 0 0) Tryz.results114 rfl ?_
    rw [c2]
    exact ⟨h.grown, _, rfl, ek.nil, l8⟩
  · refine aG (aa ?_)
    refine ai (ag ?_)
    refine tJ (R := (qj aM)) (vs := []) (xs := []) h 2 qK rfl rfl rfl trivial rfl fun w u h => ?_
    refine ae (au rfl) ?_
    refine mO (R := (qj aM)) (m := a) h 2 rfl (h.iI 1 rfl) qK rfl rfl rfl hr.1 hr.2 fun w u h => ?_
    refine ae (aj rfl) (ah (aa (aK ?_)))
    refine cu (v := u) Tryz.results114 rfl ?_
    exact ⟨h.grown, _, rfl, (h.mP 2 rfl).1, (h.mP 2 rfl).2⟩
theorem uJ (w0 : World) (M : BS) (hM : ∀ b, M b → b < w0.heap.size) (va : Value) (a : List Val) (ha : gL aM w0 BE M va a) (r : List Val) (hs : clone 16 a = some r) :
    Calls Tryz.prog 85 #[va] w0 (fun e w' => Grow w0 w' ∧ ∃ u0, e = .returned u0 ∧ ek aM 51 w' M u0 r ∧ (∀ b, ob u0 b → w0.heap.size ≤ b)) := by
  obtain ⟨hr, hs⟩ := bM hs
  cases hs
  refine aS (args := [va]) Tryz.func85 rfl Tryz.ntmps85 (Nat.le_of_ble_eq_true rfl) ?_
  have h := (SH.init hM).fI 1 ha bN
  refine ai (ag (ae (aj rfl) (ah (aa ?_))))
  refine ai (ai (ag (ae (au rfl) (ae (Jn bK rfl (h.iI 1 rfl) rfl) (ah (aa ?_))))))
  refine iJ rfl (fun c => ?_) (fun c => ?_)
  · obtain ⟨c1, c2⟩ := yG (h.iI 1 rfl) c
    refine ai (ag (ae (aj rfl) (ah (aa (aK (aC ?_))))))
    refine cu (v := .slice none 0 0) Tryz.results85 rfl ?_
    rw [c2]
    exact ⟨h.grown, _, rfl, ek.nil, l8⟩
  · refine aG (aa ?_)
    refine ai (ag ?_)
    refine tJ (R := aM) (vs := []) (xs := []) h 2 uk rfl rfl rfl trivial rfl fun w u h => ?_
    refine ae (au rfl) ?_
    refine mO (R := aM) (m := a) h 2 rfl (h.iI 1 rfl) uk rfl rfl rfl hr.1 hr.2 fun w u h => ?_
    refine ae (aj rfl) (ah (aa (aK ?_)))
    refine cu (v := u) Tryz.results85 rfl ?_
    exact ⟨h.grown, _, rfl, (h.mP 2 rfl).1, (h.mP 2 rfl).2⟩
def vJ (a : List (List Val)) (i14 : Int) (s : Unit) (J3 : Unit → Option (List (List Val))) : Option (List (List Val)) :=
  (idx a i14).bind fun x20 => (clone 16 x20).bind fun y31 => J3 ()
def vK (a : List (List Val)) (s : Unit) : Option (List (List Val)) :=
  some a
def AQ (a : List (List Val)) : Option (List (List Val)) :=
  (clone 24 a).bind fun y1 => upto (vJ a) (vK a) 0 ((a.length : Int)).toNat ()
theorem zT (w0 : World) (M : BS) (hM : ∀ b, M b → b < w0.heap.size) (va : Value) (a : List (List Val)) (ha : gL (qj aM) w0 BE M va a) (r : List (List Val)) (hs : AQ a = some r) :
    Calls Tryz.prog 84 #[va] w0 (fun e w' => Grow w0 w' ∧ ∃ wz, ∃ yc, e = .returned (wz) ∧ Chunk.holds w' M (Chunk.own' ((.two (.own (aT Val).raw 47 wz (List.zip r yc)) (.bL (aR aM 51 hn yc (List.map (aT Val).sub r)))) : Chunk)) ((.two (.own (aT Val).raw 47 wz (List.zip r yc)) (.bL (aR aM 51 hn yc (List.map (aT Val).sub r)))) : Chunk) ∧ (∀ b, Chunk.own' ((.two (.own (aT Val).raw 47 wz (List.zip r yc)) (.bL (aR aM 51 hn yc (List.map (aT Val).sub r)))) : Chunk) b → w0.heap.size ≤ b)) := by
 refine aS (args := [va]) Tryz.func84 rfl Tryz.ntmps84 (Nat.le_of_ble_eq_true rfl) ?_
 have h := SH.init hM
 replace h := h.fI 1 ha bN
 have uw := ha.cB
 refine ai (ag (ae (aj (v := (.slice none 0 0)) rfl) (ah (aa (ai (ag (ae (au (v := va) rfl) ?_)))))))
 obtain ⟨y1, e2, hs⟩ := aQ hs
 have z3 := xJ e2
 subst z3
 refine bA Uq rfl rfl (zy _ _ h.lt va a (h.iI 1 rfl) _ e2) ?_
 rintro _ w ⟨k7, u4, rfl, g5, g6⟩
 refine ⟨_, rfl, ?_⟩
 replace h := h.kJ 2 k7 g5 g6
 obtain ⟨Vx, -, h⟩ := h.thaw (N := (aT Val)) (R := aM) (Es := 51) 2 3 4 rfl (by decide) (by decide) (by decide) rfl Ug
 refine ae (aj (v := u4) rfl) (ah (aa (ai (ai (ag (ae (au (v := u4) rfl) (ae (oM (N := (aT Val)) dZ rfl (h.eF 2 rfl) (h.iK 3 rfl)) (ae (au (v := (.int .i64 (0))) rfl) (ah (aa (aU ?_)))))))))))
 have ZK := (h.iI 1 rfl).cB
 refine gP (σ := Nat × Int × List Value) (inl [3, 4, 9, 10, 11, 12, 13, 14, 15, 16, 17, 18, 19]) (fun ⟨k13, i14, uX⟩ => [(9, (.int .i64 (i14)))]) (fun ⟨k13, i14, uX⟩ w => SH w0 M BE w (hset [(2, .own (aT Val).raw 47 u4 (List.zip a uX)), (3, .bL (aR aM 51 (hge (k13)) uX (List.map (aT Val).sub a))), (4, .bL (CE aM (k13) uX (List.map (aT Val).sub a)))]) ∧ i14 = (k13 : Int) ∧ upto (vJ a) (vK a) i14 (((a.length : Int)).toNat - k13) () = some r) (fun ⟨k13, i14, uX⟩ => ((a.length : Int)).toNat - k13) ⟨0, 0, Vx⟩ ⟨rfl, trivial⟩ ?_ ?_
 exact ⟨h.cn _, rfl, hs⟩
 rintro ⟨k13, i14, uX⟩ w dD ⟨h, hik, hs⟩
 refine ai (ag ?_)
 refine ae (dS rfl rfl) (ah (aa ?_))
 refine ai (iJ rfl (fun e18 => ?_) (fun e18 => ?_))
 refine aG (aa ?_)
 rw [tT (by have := of_decide_eq_true e18; omega)] at hs
 generalize ZL : upto (vJ a) (vK a) (i14 + 1) (((a.length : Int)).toNat - (k13 + 1)) = J3 at hs
 have e19r : jO (i14 + 1) := (by have := of_decide_eq_true e18; have := ZK; exact jO.mk (by omega) (by omega))
 refine ai (aU (ai (ag (ae (au (v := (.int .i64 (i14))) rfl) ?_))))
 obtain ⟨x20, e21, hs⟩ := aQ hs
 obtain ⟨u25, e260, r27⟩ := h.Q6 4 x20 rfl (h.iK 3 rfl) (Iw hik (aI e21).2) rfl
 have e26 := Vr hik e260
 replace h := h.di 5 r27
 obtain ⟨Br, q24, i22⟩ := h.uR 2 rfl dZ rfl (aI e21).1 (fe (aI e21).2 e26)
 refine ae (i22 _ _ _ _ _ _ _ _ _ rfl rfl) ?_
 obtain ⟨UG, m29, UI⟩ := h.xc 2 rfl q24 (fe (aI e21).2 e26)
 obtain ⟨rfl, -⟩ := UI
 refine ae (oC (k := 0) m29 kg rfl rfl) (ae (aj (v := (.int .i64 (i14))) rfl) (ae (aj (v := u25) rfl) (ah (aa (ag (ae (au (v := u4) rfl) (ae (au (v := (.int .i64 (i14))) rfl) (ae (au (v := u25) rfl) ?_))))))))
 obtain ⟨y31, e32, hs⟩ := aQ hs
 have z33 := xJ e32
 subst z33
 refine bA Rk rfl rfl (uJ _ _ h.lt u25 x20 (h.mH 5 rfl) _ e32) ?_
 rintro _ w ⟨k37, u34, rfl, g35, g36⟩
 refine ⟨_, rfl, ?_⟩
 replace h := h.kJ 6 k37 g35 g36
 obtain ⟨b39, q40, i38⟩ := h.uR 2 rfl dZ rfl (aI e21).1 (fe (aI e21).2 e26)
 refine ae (i38 _ _ _ _ _ _ _ _ _ rfl rfl) ?_
 have o41 : (Value.oneCell' u34) = true := (h.dJ 6 rfl).one
 refine Ij (off := 0) (a' := (x20, u34)) h 2 rfl q40 rfl (fe (aI e21).2 e26) kg rfl rfl o41 rfl (by rintro _ ⟨rfl, _⟩; exact ⟨rfl, o41⟩) fun w h => ?_
 rw [KC (aI e21).2, Q3 hik] at h
 replace h := h.KG 3 4 6 rfl rfl rfl (by decide) (by decide) (by decide) (Iw hik (aI e21).2) (Iw hik e26) rfl
 generalize List.set uX k13 u34 = Si at h
 refine ah (aA (aa (ag (ae (dH rfl rfl e19r) (ae (au (v := (.int .i64 ((i14 + 1)))) rfl) (ah (az ?_)))))))
 subst ZL
 exact jN ⟨k13 + 1, i14 + 1, Si⟩ ⟨h.cn _, by omega, hs⟩ (by have := of_decide_eq_true e18; dsimp only; omega)
 rw [tV (by have := of_decide_eq_false e18; omega)] at hs
 replace h := h.Q0 3 rfl (by have := of_decide_eq_false e18; omega)
 replace h := h.fK 4
 refine dh (aO (aO (bE (aa (ai (ag (ae (au (v := u4) rfl) (ae (aj (v := u4) rfl) (ah (aa (aK (cu (v := u4) Tryz.results84 rfl ?_))))))))))))
 replace h := h.pair 2 3 (by decide)
 obtain rfl := Option.some.inj hs
 obtain ⟨o1, o2, o3⟩ := h.qD 2 (C := (.two (.own (aT Val).raw 47 u4 (List.zip a uX)) (.bL (aR aM 51 hn uX (List.map (aT Val).sub a))) : Chunk)) rfl ⟨trivial, trivial⟩
 exact ⟨o2, u4, uX, rfl, o1, Jz o3⟩
def yZ (a : LX.State) (i13 : Int) (s : Unit) (ZM : Unit → Option LX.State) : Option LX.State :=
  (idx a.frames i13).bind fun yY => (clone 16 yY.regs).bind fun Sj => ZM ()
def y5 (a : LX.State) (y7 : List (List Val)) (s : Unit) : Option LX.State :=
  some (⟨a.frames, y7, a.status, a.aV⟩ : LX.State)
def BN (a : LX.State) (y7 : List (List Val)) : Option LX.State :=
  upto (yZ a) (y5 a y7) 0 ((a.frames.length : Int)).toNat ()
def za (a : LX.State) : Option LX.State :=
  (clone 48 a.frames).bind fun Sk => (AQ a.cells).bind fun pY => BN a pY
theorem AR (w0 : World) (M : BS) (hM : ∀ b, M b → b < w0.heap.size) (a : LX.State) (Co CV : Value) (ha0 : gL fo w0 BE M Co a.frames) (ha1 : gL (qj aM) w0 BE M CV a.cells) (r : LX.State) (hs : za a = some r) :
    Calls Tryz.prog 49 #[(.agg #[Co, CV, (.int .i64 (a.status)), (.int .i64 (a.aV))])] w0 (fun e w' => Grow w0 w' ∧ ∃ wz, ∃ zx, ∃ yc, ∃ DY, e = .returned (.agg #[wz, zx, .int .i64 r.status, .int .i64 r.aV]) ∧ Chunk.holds w' M (Chunk.own' ((.two (.two (.two (.own aB.raw 49 wz (List.zip r.frames yc)) (.bL (aR aM 51 hn yc (List.map aB.sub r.frames)))) (.own (aT Val).raw 47 zx (List.zip r.cells DY))) (.bL (aR aM 51 hn DY (List.map (aT Val).sub r.cells)))) : Chunk)) ((.two (.two (.two (.own aB.raw 49 wz (List.zip r.frames yc)) (.bL (aR aM 51 hn yc (List.map aB.sub r.frames)))) (.own (aT Val).raw 47 zx (List.zip r.cells DY))) (.bL (aR aM 51 hn DY (List.map (aT Val).sub r.cells)))) : Chunk) ∧ (∀ b, Chunk.own' ((.two (.two (.two (.own aB.raw 49 wz (List.zip r.frames yc)) (.bL (aR aM 51 hn yc (List.map aB.sub r.frames)))) (.own (aT Val).raw 47 zx (List.zip r.cells DY))) (.bL (aR aM 51 hn DY (List.map (aT Val).sub r.cells)))) : Chunk) b → w0.heap.size ≤ b)) := by
 refine aS (args := [(.agg #[Co, CV, (.int .i64 (a.status)), (.int .i64 (a.aV))])]) Tryz.func49 rfl Tryz.ntmps49 (Nat.le_of_ble_eq_true rfl) ?_
 have h := SH.init hM
 replace h := h.fI 1 ha0 bN
 replace h := h.fI 2 ha1 (dn bN)
 refine ai (ag (oD (cs := [Co, CV, (.int .i64 (a.status)), (.int .i64 (a.aV))]) h 3 rfl rfl fun w b1 h => bY h 4 dw fun w b2 h => ah (aa (cz (σ := Value × List Value × Value × List Value × List (List Val)) (inl [5, 6, 7, 8, 9, 10, 11, 12]) (fun ⟨v3, Yi, v5, IJ, y7⟩ => []) (fun ⟨v3, Yi, v5, IJ, y7⟩ w => SH w0 M BE w (hset [(3, .blk b1 [v3, v5, (.int .i64 (a.status)), (.int .i64 (a.aV))]), (4, .blk b2 [(.slice none 0 0), (.slice none 0 0), (.int .i64 (0)), (.int .i64 (0))]), (29, .own aB.raw 49 v3 (List.zip a.frames Yi)), (30, .bL (aR aM 51 (hge (0)) Yi (List.map aB.sub a.frames))), (31, .bL (CE aM (0) Yi (List.map aB.sub a.frames))), (65, .own (aT Val).raw 47 v5 (List.zip y7 IJ)), (66, .bL (aR aM 51 hn IJ (List.map (aT Val).sub y7)))]) ∧ BN a y7 = some r) ?_ ?_))))
 rintro ⟨v3, Yi, v5, IJ, y7⟩ w dD ⟨h, hs⟩
 refine ai (ai (ag (ae (ak dY rfl) (ae (aD h 3 rfl iR rfl rfl) (ae (oM (N := aB) dm rfl (h.eF 29 rfl) (h.iK 30 rfl)) (ae (au (v := (.int .i64 (0))) rfl) (ah (aa (aU ?_)))))))))
 have ZN := Mt (h.eF 29 rfl) (h.iK 30 rfl)
 refine gP (σ := Nat × Int × List Value) (inl [3, 4, 16, 17, 18, 19, 20, 21, 22, 23, 24, 25, 26, 27, 28, 29]) (fun ⟨k12, i13, DZ⟩ => [(16, (.int .i64 (i13)))]) (fun ⟨k12, i13, DZ⟩ w => SH w0 M BE w (hset [(3, .blk b1 [v3, v5, (.int .i64 (a.status)), (.int .i64 (a.aV))]), (4, .blk b2 [(.slice none 0 0), (.slice none 0 0), (.int .i64 (0)), (.int .i64 (0))]), (29, .own aB.raw 49 v3 (List.zip a.frames DZ)), (30, .bL (aR aM 51 (hge (k12)) DZ (List.map aB.sub a.frames))), (31, .bL (CE aM (k12) DZ (List.map aB.sub a.frames))), (65, .own (aT Val).raw 47 v5 (List.zip y7 IJ)), (66, .bL (aR aM 51 hn IJ (List.map (aT Val).sub y7)))]) ∧ i13 = (k12 : Int) ∧ upto (yZ a) (y5 a y7) i13 (((a.frames.length : Int)).toNat - k12) () = some r) (fun ⟨k12, i13, DZ⟩ => ((a.frames.length : Int)).toNat - k12) ⟨0, 0, Yi⟩ ⟨rfl, trivial⟩ ?_ ?_
 exact ⟨h.cn _, rfl, hs⟩
 rintro ⟨k12, i13, DZ⟩ w dD ⟨h, hik, hs⟩
 refine ai (ag ?_)
 refine ae (dS rfl rfl) (ah (aa ?_))
 refine ai (iJ rfl (fun e17 => ?_) (fun e17 => ?_))
 refine aG (aa ?_)
 rw [tT (by have := of_decide_eq_true e17; omega)] at hs
 generalize ZO : upto (yZ a) (y5 a y7) (i13 + 1) (((a.frames.length : Int)).toNat - (k12 + 1)) = ZM at hs
 have e18r : jO (i13 + 1) := (by have := of_decide_eq_true e17; have := ZN; exact jO.mk (by omega) (by omega))
 refine ai (aU (ai (ag (ae (au (v := (.int .i64 (i13))) rfl) ?_))))
 obtain ⟨yY, e20, hs⟩ := aQ hs
 obtain ⟨u24, e250, r26⟩ := h.Q6 31 yY.regs rfl (h.iK 30 rfl) (Iw hik (aI e20).2) rfl
 have e25 := Vr hik e250
 replace h := h.di 67 r26
 obtain ⟨b22, q23, i21⟩ := h.uR 29 rfl dm rfl (aI e20).1 (fe (aI e20).2 e25)
 refine ae (i21 _ _ _ _ _ _ _ _ _ rfl rfl) ?_
 obtain ⟨cs27, m28, Xj⟩ := h.xc 29 rfl q23 (fe (aI e20).2 e25)
 obtain ⟨rfl, -⟩ := Xj
 refine ae (mM (k := 0) (vs := [(.int .i64 (yY.proc)), (.int .i64 (yY.at_)), u24, (.int .i64 (yY.kG))]) m28 iy rfl rfl rfl (Nat.le_of_ble_eq_true rfl)) (bY h 68 iy fun w b30 h => ae (aj (v := (.int .i64 (i13))) rfl) (dB (vs := [(.int .i64 (yY.proc)), (.int .i64 (yY.at_)), u24, (.int .i64 (yY.kG))]) h 68 [(.int .i64 (yY.proc)), (.int .i64 (yY.at_)), u24, (.int .i64 (yY.kG))] rfl iy rfl rfl rfl rfl rfl (ay rfl (ay rfl (ay (h.iq 67 rfl).one (ay rfl bg)))) fun w h => ah (aa (mf (L := (ob v3)) mixed h fun w h => bu 0 (aL.refl _ _) rfl ax (by kernel_rfl) (by kernel_rfl) (by kernel_rfl) (fun w hk => ak dY rfl) (bu 1 (aL.refl _ _) rfl ax (by kernel_rfl) (by kernel_rfl) (by kernel_rfl) (fun w hk => have h := h.qJ 29 rfl hk; aD h 3 rfl iR rfl rfl) (bu 2 (aL.refl _ _) rfl ax (by kernel_rfl) (by kernel_rfl) (by kernel_rfl) (fun w hk => au (v := (.int .i64 (i13))) rfl) (bu 3 (aL.refl _ _) rfl ax (by kernel_rfl) (by kernel_rfl) (by kernel_rfl) (fun w hk => ak jW rfl) (bu 4 (aL.refl _ _) rfl ax (by kernel_rfl) (by kernel_rfl) (by kernel_rfl) (fun w hk => have h := h.qJ 29 rfl hk; aD h 68 rfl kg rfl rfl) ?_))))))))
 obtain ⟨ZP, Vy⟩ : ∃ x, x = w := ⟨_, rfl⟩
 have J4 : aL (ob v3) ZP w := Vy ▸ aL.refl (ob v3) w
 refine rW Vy.symm (bS 5 (by kernel_rfl) rfl ax ?_)
 obtain ⟨Sj, La, hs⟩ := aQ hs
 have Sl := xJ La
 subst Sl
 refine bA Rk rfl rfl (uJ _ _ h.lt u24 yY.regs (h.mH 67 rfl) _ La) ?_
 rintro _ w ⟨Lb, CW, rfl, Sm, Lc⟩
 refine ⟨_, rfl, ?_⟩
 replace h := h.kJ 129 Lb Sm Lc
 have Yj : ∀ b, ob CW b → ZP.heap.size ≤ b := fun b hb => Nat.le_trans J4.size (Lc b hb)
 replace J4 := J4.grow Lb
 refine ah (aX J4 ?_)
 obtain ⟨ZQ, Sn, Sq⟩ := h.uR 29 rfl dm rfl (aI e20).1 (fe (aI e20).2 e25)
 refine bu 6 J4 rfl ax (by kernel_rfl) (by kernel_rfl) (by kernel_rfl) (fun w hk => Sq _ _ _ _ _ _ _ _ _ rfl rfl) (bu 7 J4 rfl ax (by kernel_rfl) (by kernel_rfl) (by kernel_rfl) (fun w hk => ak jW rfl) (bS 8 (by kernel_rfl) rfl ax ?_))
 have Ld : (Value.oneCell' CW) = true := (h.dJ 129 rfl).one
 refine QK (a' := (yY, CW)) h 29 rfl Sn rfl (fe (aI e20).2 e25) kg rfl rfl Ld rfl (by rintro _ ⟨rfl, _⟩; exact ⟨rfl, Ld⟩) fun w h Sr => ?_
 replace J4 := J4.same Sr
 rw [KC (aI e20).2, Q3 hik] at h
 replace h := h.KG 30 31 129 rfl rfl rfl (by decide) (by decide) (by decide) (Iw hik (aI e20).2) (Iw hik e25) rfl
 generalize List.set DZ k12 CW = PM at h
 refine ah (aX J4 (gJ (by kernel_rfl) (aA (aa (ag (ae (dH rfl rfl e18r) (ae (au (v := (.int .i64 ((i13 + 1)))) rfl) (ah (az ?_)))))))))
 subst ZO
 exact jN ⟨k12 + 1, i13 + 1, PM⟩ ⟨h.cn _, by omega, hs⟩ (by have := of_decide_eq_true e17; dsimp only; omega)
 rw [tV (by have := of_decide_eq_false e17; omega)] at hs
 replace h := h.Q0 30 rfl (by have := of_decide_eq_false e17; omega)
 replace h := h.fK 31
 refine dh (aO (aO (bE (aa (ai (ag (ae (dE (vs := [v3, v5, (.int .i64 (a.status)), (.int .i64 (a.aV))]) h 3 rfl dw rfl rfl rfl) (dB (vs := [v3, v5, (.int .i64 (a.status)), (.int .i64 (a.aV))]) h 4 [v3, v5, (.int .i64 (a.status)), (.int .i64 (a.aV))] rfl dw rfl rfl rfl rfl rfl (ay (h.dJ 29 rfl).one (ay (h.dJ 65 rfl).one (ay rfl (ay rfl bg)))) fun w h => ah (aa (aK (Vq (vs := [v3, v5, (.int .i64 (a.status)), (.int .i64 (a.aV))]) Tryz.results49 rfl h 4 rfl dw rfl ?_)))))))))))
 replace h := h.pair 29 30 (by decide)
 replace h := h.pair 29 65 (by decide)
 replace h := h.pair 29 66 (by decide)
 obtain rfl := Option.some.inj hs
 obtain ⟨o1, o2, o3⟩ := h.qD 29 (C := (.two (.two (.two (.own aB.raw 49 v3 (List.zip a.frames DZ)) (.bL (aR aM 51 hn DZ (List.map aB.sub a.frames)))) (.own (aT Val).raw 47 v5 (List.zip y7 IJ))) (.bL (aR aM 51 hn IJ (List.map (aT Val).sub y7))) : Chunk)) rfl ⟨⟨⟨trivial, trivial⟩, trivial⟩, trivial⟩
 exact ⟨o2, v3, v5, DZ, IJ, rfl, o1, Jz o3⟩
 refine mf (L := (fun x => x = b1)) mixed h fun w h => bu 0 (aL.refl _ _) rfl ax (by kernel_rfl) (by kernel_rfl) (by kernel_rfl) (fun w hk => ak dY rfl) (bu 3 (aL.refl _ _) rfl ax (by kernel_rfl) (by kernel_rfl) (by kernel_rfl) (fun w hk => ak iW rfl) ?_)
 obtain ⟨Sk, yf, hs⟩ := aQ hs
 obtain ⟨pY, Gm, hs⟩ := aQ hs
 obtain ⟨UJ, Vz⟩ : ∃ x, x = w := ⟨_, rfl⟩
 have kr : aL (fun x => x = b1) UJ w := Vz ▸ aL.refl (fun x => x = b1) w
 refine rW Vz.symm (oF 1 4 (by kernel_rfl) rfl ax rfl ax ?_ ?_)
 refine ae (aD h 3 rfl iR rfl rfl) (ah (aX kr (oF 2 4 (by kernel_rfl) rfl ax rfl ax ?_ ?_)))
 have zU := xJ yf
 subst zU
 refine bA MC rfl rfl (pX _ _ h.lt Co a.frames (h.iI 1 rfl) _ yf) ?_
 rintro _ w ⟨uK, mr, rfl, zV, uL⟩
 refine ⟨_, rfl, ?_⟩
 replace h := h.kJ 213 uK zV uL
 have IK : ∀ b, ob mr b → UJ.heap.size ≤ b := fun b hb => Nat.le_trans kr.size (uL b hb)
 replace kr := kr.grow uK
 obtain ⟨yg, -, h⟩ := h.thaw (N := aB) (R := aM) (Es := 51) 213 214 215 rfl (by decide) (by decide) (by decide) rfl Dz
 refine ah (aX kr (bS 4 (by kernel_rfl) rfl ax (ae (aD h 3 rfl mg rfl rfl) (ah (aX kr (bu 6 kr rfl ax (by kernel_rfl) (by kernel_rfl) (by kernel_rfl) (fun w hk => ak dY rfl) (bS 5 (by kernel_rfl) rfl ax (bA ME rfl rfl (zT _ _ h.lt CV a.cells (h.iI 2 rfl) _ Gm) ?_))))))))
 rintro _ w ⟨uM, p8, mZ, rfl, zW, zX⟩
 refine ⟨_, rfl, ?_⟩
 replace h := h.KF 249 (C := (.two (.own (aT Val).raw 47 p8 (List.zip pY mZ)) (.bL (aR aM 51 hn mZ (List.map (aT Val).sub pY))) : Chunk)) uM ⟨trivial, trivial⟩ zW zX
 replace h := h.bX 249 250 (by decide) rfl rfl
 replace kr := kr.grow uM
 refine ah (aX kr (bS 7 (by kernel_rfl) rfl ax (qX h 3 [mr, CV, (.int .i64 (a.status)), (.int .i64 (a.aV))] rfl iR rfl rfl rfl rfl (h.dJ 213 rfl).one fun w h zY => ?_)))
 replace kr := kr.same zY
 refine ah (aX kr (bu 8 kr rfl ax (by kernel_rfl) (by kernel_rfl) (by kernel_rfl) (fun w hk => ak iW rfl) (bS 9 (by kernel_rfl) rfl ax (qX h 3 [mr, p8, (.int .i64 (a.status)), (.int .i64 (a.aV))] rfl mg rfl rfl rfl rfl (h.dJ 249 rfl).one fun w h zZ => ?_))))
 replace kr := kr.same zZ
 refine ah (aX kr (gJ (by kernel_rfl) (az ?_)))
 replace h := (h.fK 29).moveC 213 29 rfl rfl (by decide)
 replace h := (h.fK 30).moveC 214 30 rfl rfl (by decide)
 replace h := (h.fK 31).moveC 215 31 rfl rfl (by decide)
 replace h := (h.fK 65).moveC 249 65 rfl rfl (by decide)
 replace h := (h.fK 66).moveC 250 66 rfl rfl (by decide)
 exact bU (mr, yg, p8, mZ, pY) ⟨h.cn _, hs⟩
 refine ae (aD h 3 rfl mg rfl rfl) (ah (aX kr (bS 2 (by kernel_rfl) rfl ax ?_)))
 have zU := xJ yf
 subst zU
 refine bA MC rfl rfl (pX _ _ h.lt Co a.frames (h.iI 1 rfl) _ yf) ?_
 rintro _ w ⟨uK, mr, rfl, zV, uL⟩
 refine ⟨_, rfl, ?_⟩
 replace h := h.kJ 213 uK zV uL
 have IK : ∀ b, ob mr b → UJ.heap.size ≤ b := fun b hb => Nat.le_trans kr.size (uL b hb)
 replace kr := kr.grow uK
 obtain ⟨yg, -, h⟩ := h.thaw (N := aB) (R := aM) (Es := 51) 213 214 215 rfl (by decide) (by decide) (by decide) rfl Dz
 refine ah (aX kr (bu 6 kr rfl ax (by kernel_rfl) (by kernel_rfl) (by kernel_rfl) (fun w hk => ak dY rfl) (bS 5 (by kernel_rfl) rfl ax (bA ME rfl rfl (zT _ _ h.lt CV a.cells (h.iI 2 rfl) _ Gm) ?_))))
 rintro _ w ⟨uM, p8, mZ, rfl, zW, zX⟩
 refine ⟨_, rfl, ?_⟩
 replace h := h.KF 249 (C := (.two (.own (aT Val).raw 47 p8 (List.zip pY mZ)) (.bL (aR aM 51 hn mZ (List.map (aT Val).sub pY))) : Chunk)) uM ⟨trivial, trivial⟩ zW zX
 replace h := h.bX 249 250 (by decide) rfl rfl
 replace kr := kr.grow uM
 refine ah (aX kr (bS 7 (by kernel_rfl) rfl ax (qX h 3 [mr, CV, (.int .i64 (a.status)), (.int .i64 (a.aV))] rfl iR rfl rfl rfl rfl (h.dJ 213 rfl).one fun w h zY => ?_)))
 replace kr := kr.same zY
 refine ah (aX kr (bu 8 kr rfl ax (by kernel_rfl) (by kernel_rfl) (by kernel_rfl) (fun w hk => ak iW rfl) (bS 9 (by kernel_rfl) rfl ax (qX h 3 [mr, p8, (.int .i64 (a.status)), (.int .i64 (a.aV))] rfl mg rfl rfl rfl rfl (h.dJ 249 rfl).one fun w h zZ => ?_))))
 replace kr := kr.same zZ
 refine ah (aX kr (gJ (by kernel_rfl) (az ?_)))
 replace h := (h.fK 29).moveC 213 29 rfl rfl (by decide)
 replace h := (h.fK 30).moveC 214 30 rfl rfl (by decide)
 replace h := (h.fK 31).moveC 215 31 rfl rfl (by decide)
 replace h := (h.fK 65).moveC 249 65 rfl rfl (by decide)
 replace h := (h.fK 66).moveC 250 66 rfl rfl (by decide)
 exact bU (mr, yg, p8, mZ, pY) ⟨h.cn _, hs⟩
 refine ae (aD h 3 rfl mg rfl rfl) (ah (aX kr (bS 1 (by kernel_rfl) rfl ax (ae (aD h 3 rfl iR rfl rfl) (ah (aX kr (bS 2 (by kernel_rfl) rfl ax ?_)))))))
 have zU := xJ yf
 subst zU
 refine bA MC rfl rfl (pX _ _ h.lt Co a.frames (h.iI 1 rfl) _ yf) ?_
 rintro _ w ⟨uK, mr, rfl, zV, uL⟩
 refine ⟨_, rfl, ?_⟩
 replace h := h.kJ 213 uK zV uL
 have IK : ∀ b, ob mr b → UJ.heap.size ≤ b := fun b hb => Nat.le_trans kr.size (uL b hb)
 replace kr := kr.grow uK
 obtain ⟨yg, -, h⟩ := h.thaw (N := aB) (R := aM) (Es := 51) 213 214 215 rfl (by decide) (by decide) (by decide) rfl Dz
 refine ah (aX kr (bu 6 kr rfl ax (by kernel_rfl) (by kernel_rfl) (by kernel_rfl) (fun w hk => ak dY rfl) (bS 5 (by kernel_rfl) rfl ax (bA ME rfl rfl (zT _ _ h.lt CV a.cells (h.iI 2 rfl) _ Gm) ?_))))
 rintro _ w ⟨uM, p8, mZ, rfl, zW, zX⟩
 refine ⟨_, rfl, ?_⟩
 replace h := h.KF 249 (C := (.two (.own (aT Val).raw 47 p8 (List.zip pY mZ)) (.bL (aR aM 51 hn mZ (List.map (aT Val).sub pY))) : Chunk)) uM ⟨trivial, trivial⟩ zW zX
 replace h := h.bX 249 250 (by decide) rfl rfl
 replace kr := kr.grow uM
 refine ah (aX kr (bS 7 (by kernel_rfl) rfl ax (qX h 3 [mr, CV, (.int .i64 (a.status)), (.int .i64 (a.aV))] rfl iR rfl rfl rfl rfl (h.dJ 213 rfl).one fun w h zY => ?_)))
 replace kr := kr.same zY
 refine ah (aX kr (bu 8 kr rfl ax (by kernel_rfl) (by kernel_rfl) (by kernel_rfl) (fun w hk => ak iW rfl) (bS 9 (by kernel_rfl) rfl ax (qX h 3 [mr, p8, (.int .i64 (a.status)), (.int .i64 (a.aV))] rfl mg rfl rfl rfl rfl (h.dJ 249 rfl).one fun w h zZ => ?_))))
 replace kr := kr.same zZ
 refine ah (aX kr (gJ (by kernel_rfl) (az ?_)))
 replace h := (h.fK 29).moveC 213 29 rfl rfl (by decide)
 replace h := (h.fK 30).moveC 214 30 rfl rfl (by decide)
 replace h := (h.fK 31).moveC 215 31 rfl rfl (by decide)
 replace h := (h.fK 65).moveC 249 65 rfl rfl (by decide)
 replace h := (h.fK 66).moveC 250 66 rfl rfl (by decide)
 exact bU (mr, yg, p8, mZ, pY) ⟨h.cn _, hs⟩
def z8 (x8 : Int) : Option (Val × Bool) :=
  some ((⟨1, x8⟩ : Val), (decide ((-1000000000 : Int) ≤ x8) && decide ((x8 : Int) ≤ 1000000000)))
def VA (a : Int) (b : Val) (c : Val) : Option (Val × Bool) :=
  bif decide ((a : Int) = 5) then bif (decide (b.kind = c.kind) && decide (b.n = c.n)) then some ((⟨1, 1⟩ : Val), true) else some ((⟨1, 0⟩ : Val), true) else bif (decide ((b.kind : Int) ≠ 1) || decide ((c.kind : Int) ≠ 1)) then some ((⟨0, 0⟩ : Val), false) else bif decide ((a : Int) = 1) then ib (jO (b.n + c.n)) (z8 (b.n + c.n)) else bif decide ((a : Int) = 2) then ib (jO (b.n - c.n)) (z8 (b.n - c.n)) else bif decide ((a : Int) = 3) then ib (jO (b.n * c.n)) (z8 (b.n * c.n)) else bif decide ((a : Int) = 4) then bif decide ((b.n : Int) < c.n) then some ((⟨1, 1⟩ : Val), true) else some ((⟨1, 0⟩ : Val), true) else z8 0
end
end Go.Proofs.YtfclkapelkhlpaaGreatDoor
