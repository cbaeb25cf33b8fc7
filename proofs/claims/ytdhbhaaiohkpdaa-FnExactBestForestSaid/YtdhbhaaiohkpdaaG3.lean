/- Functions of the program as typed functions, and that the machine runs as they say (part 3). No further condition. -/
import Derived.Test.YtdhbhaaiohkpdaaK4
import Derived.Test.YtdhbhaaiohkpdaaProg
import Derived.Test.YtdhbhaaiohkpdaaChecked
import Derived.KernelRfl
import Derived.Test.YtdhbhaaiohkpdaaG2
set_option linter.unusedVariables false
set_option linter.unusedSimpArgs false
/- Functions of the program, as typed functions, and that the machine runs as they say. -/
namespace Go.Zq
open Go.Proofs
/- loop.example/g01109/laws.markIntS -/
def A23_2 : AC := (.cond (.t 9) .skip (.exit 0))
def A23_4 : AC := (.reg [] [(jm 16 1), ((jv 17 (.bin .add (.t 16) (jn 1)))), (jm 1 17)] [])
def A23_5 : AC := (.reg [] [(jm 10 5), ((jv 11 (.bin .add (.t 10) (jn 1)))), (jm 5 11)] [])
def A23_3 : AC := (.seq (.block 1 (.seq (.reg [] [(jm 12 0), (jm 13 5), (jm 14 1), ((jv 15 (.idx (.t 12) (.t 13) 1))), (.mk none none false (.store .s (.t 15) (.t 14)))] []) A23_4)) A23_5)
def A23_1 : AC := (.seq (.seq (.reg [] [(jm 6 5), (jm 7 0), ((jv 8 (.len (.t 7)))), ((jv 9 (.bin .lss (.t 6) (.t 8))))] []) A23_2) A23_3)
def A23_6 : AC := (.seq (.reg [] [(jm 18 1), (jm 4 18)] []) .ret)
def A23_8 : AC := (.block 0 (.loop A23_1))
def A23_7 : AC := (.seq (.seq (.reg [] [((jv 5 (.mov (jn 0))))] []) A23_8) A23_6)
def A23 : AC := (.seq (.reg [] [((jv 4 (.mov (jn 0))))] []) A23_7)
def an23 : List An := []
theorem c23 : cC Try.prog Try.f23.ntmps an23 (Try.f23.body.getD .skip) = some A23 := by kernel_rfl
structure H23 (D : Den) (σ : Sig) (F : Nat) : Prop where
  mk ::
abbrev R23 (r : (Int × NL Int)) : (Nat → V) → Prop := RM Try.prog [.tmp 4] (Enc.enc (r.1 : Int)) (encO (.at pinR []) (r.2 : NL Int))
section
variable {D : Den} {σ : Sig} {F : Nat} {r : (Int × NL Int)}
def w_markIntS_l1 (F : Nat)   : Nat → (NL Int) → Int → Int → Option (Int × NL Int)
  | 0, _, _, _ => none
  | k + 1, x_4, x_5, x_6 =>
    bif decide (x_6 < (x_4.list.length : Int)) then
      (idx x_4.list x_6).bind fun e_8 =>
      (w_markIntS_l1 F k) (NL.set x_4 x_6.toNat x_5) (w64 (x_5 + 1)) (w64 (x_6 + 1))
    else
      some (x_5, x_4)
theorem t_f23_l1 (H : H23 D σ F)   : ∀ (k : Nat) (x_4 : (NL Int)) (x_5 : Int) (x_6 : Int) (s : Nat → V), Facts [(0, (oI pinR [] x_4)), (1, (ji x_5)), (4, (ji 0)), (5, (ji x_6))] s → w_markIntS_l1 F k x_4 x_5 x_6 = some r → Run D σ (R23 r) (.run A23_1 [.lp A23_1, .bk 0, .sq A23_6]) s := by
  intro k
  induction k with
  | zero => intro x_4 x_5 x_6 s _ h; exact nomatch (h : (none : Option _) = some r)
  | succ k ih =>
    intro x_4 x_5 x_6 s hs h
    rw [w_markIntS_l1] at h
    obtain ⟨h0, h1, h4, h5⟩ := hs
    refine .seq (.seq (rg (gm h5 fun h6 => gv (oI pinR [] x_4) (ev_mov h0 ok_encO) fun h7 => ?_)))
    refine gv (ji (x_4.list.length : Int)) (ev_lenO (o := x_4) h7) fun h8 => ?_
    refine g2 6 8 (jb (decide (x_6 < (x_4.list.length : Int)))) h6 h8 fun h9 => ?_
    refine gq (.nsq (run_cond (t := decide (x_6 < (x_4.list.length : Int))) h9 h (fun h => ?_) (fun h => ?_)))
    · refine .skip (.nsq (.seq (.block (.seq (rg (gv (oI pinR [] x_4) (ev_mov h0 ok_encO) fun h12 => ?_))))))
      refine gm h5 fun h13 => gm h1 fun h14 => ?_
      obtain ⟨e_8, E_e_8, h⟩ := bind_some h
      refine gv (.ref (.at pinR []) x_6.toNat [] (ji e_8)) (ev_idxO (o := x_4) h12 h13 E_e_8 rfl) fun h15 => ?_
      refine g_store (ji x_5) (rd_of h15 rfl) (rd_of h14 rfl) (by refine ⟨by decide, by decide, rfl, rfl, rfl, ?_⟩; first | rfl | (simp [V.toks, V.tokss, Enc.toks_enc]; done) | simp [V.toks, V.tokss, Enc.toks_enc, tok_memP]) ?_
      refine gz [(0, _), (1, (ji x_5)), (4, (ji 0)), (5, (ji x_6))] ⟨(keep_mut h0 (mut_ownN (α := Int) (u := x_5) (i := x_6.toNat) (o := x_4))), (keep_mut h1 rfl), (keep_mut h4 rfl), (keep_mut h5 rfl)⟩ ?_
      rintro s ⟨h0, h1, h4, h5⟩
      refine .nsq (rg (gm h1 fun h16 => g1 16 (ji (w64 (x_5 + 1))) h16 fun h17 => ?_))
      refine gm h17 fun h1 => gq (.nbk (.nsq (rg (gm h5 fun h10 => g1 10 (ji (w64 (x_6 + 1))) h10 fun h11 => ?_))))
      refine gm h11 fun h5 => gq (.nlp ?_)
      exact ih (NL.set x_4 x_6.toNat x_5) (w64 (x_5 + 1)) (w64 (x_6 + 1)) _ ⟨h0, h1, h4, h5⟩ h
    refine .exit (.esq (.elp (.ebk (.nsq (.seq (rg (gm h1 fun h18 => gm h18 fun h4 => gq (.nsq (.ret ?_)))))))))
    have hr := Option.some.inj h
    subst hr
    exact rmA (res_tmp h4) h0
def w_markIntS (F : Nat) (x_1 : (On Int)) (x_2 : Int) : Option (Int × NL Int) :=
  w_markIntS_l1 F F x_1.v x_2 0
theorem t23 (H : H23 D σ F) (x_1 : (On Int)) (x_2 : Int) (s : Nat → V) (hs : Facts [(0, (oI pinR [] x_1.v)), (1, (ji x_2))] s) (h : w_markIntS F x_1 x_2 = some r) : Run D σ (R23 r) (.run A23 []) s := by
  unfold w_markIntS at h
  obtain ⟨h0, h1⟩ := hs
  refine .seq (rg (g0 (ji 0) fun h4 => gq (.nsq (.seq (.seq (rg (g0 (ji 0) fun h5 => gq (.nsq (.block (.loop ?_))))))))))
  exact t_f23_l1 H F x_1.v x_2 0 _ ⟨h0, h1, h4, h5⟩ h
end
def e23 (F : Nat) : Ent := ent 23 (fun (x : ((On Int) × Int × Unit)) => w_markIntS F x.1 x.2.1) (fun (r : (Int × NL Int)) => (.tup [Enc.enc (r.1 : Int), encO (.at pinR []) (r.2 : NL Int)])) pinR false []
theorem p23 {F : Nat} {x0 : (On Int)} {x1 : Int} {r : (Int × NL Int)} (h : w_markIntS F x0 x1 = some r) : (e23 F).den [Arg.arg x0, Enc.enc x1] = some (.tup [Enc.enc (r.1 : Int), encO (.at pinR []) (r.2 : NL Int)]) := ent_put (x0, x1, ()) h
theorem o23 {D : Den} {σ : Sig} {F : Nat} (hF : Fits2 Try.prog D σ) (H : H23 D σ F) : (e23 F).Ok Try.prog := by
  refine ok_of (f := 23) (show unk 23 = 23 from rfl) (fun args r h => ?_) ⟨Try.f23, Try.func23, rfl, rfl⟩
  obtain ⟨⟨x0, x1, _⟩, y, rfl, hy, rfl⟩ := da_open h
  exact contractM_run hF (by kernel_rfl) Try.func23 rfl c23 (all_ok2 ok_encP rfl) (show 2 ≤ Try.f23.ntmps by decide) (by decide) (t23 H x0 x1 _ ⟨rfl, rfl⟩ hy)
/- loop.example/g01109/laws.heldIntS -/
def A31_2 : AC := (.cond (.t 9) .skip (.exit 0))
def A31_4 : AC := (.cond (.t 17) (.seq (.reg [] [((jv 4 (.mov (jn (-1)))))] []) .ret) .skip)
def A31_5 : AC := (.reg [] [(jm 18 1), ((jv 19 (.bin .add (.t 18) (jn 1)))), (jm 1 19)] [])
def A31_6 : AC := (.reg [] [(jm 10 5), ((jv 11 (.bin .add (.t 10) (jn 1)))), (jm 5 11)] [])
def A31_3 : AC := (.seq (.block 1 (.seq (.seq (.reg [] [(jm 12 0), (jm 13 5), ((jv 14 (.idx (.t 12) (.t 13) 1))), ((jv 15 (.load .s (.t 14)))), (jm 16 1), ((jv 17 (.bin .neq (.t 15) (.t 16))))] []) A31_4) A31_5)) A31_6)
def A31_1 : AC := (.seq (.seq (.reg [] [(jm 6 5), (jm 7 0), ((jv 8 (.len (.t 7)))), ((jv 9 (.bin .lss (.t 6) (.t 8))))] []) A31_2) A31_3)
def A31_7 : AC := (.seq (.reg [] [(jm 20 1), (jm 4 20)] []) .ret)
def A31_9 : AC := (.block 0 (.loop A31_1))
def A31_8 : AC := (.seq (.seq (.reg [] [((jv 5 (.mov (jn 0))))] []) A31_9) A31_7)
def A31 : AC := (.seq (.reg [] [((jv 4 (.mov (jn 0))))] []) A31_8)
def an31 : List An := []
theorem c31 : cC Try.prog Try.f31.ntmps an31 (Try.f31.body.getD .skip) = some A31 := by kernel_rfl
structure H31 (D : Den) (σ : Sig) (F : Nat) : Prop where
  mk ::
abbrev R31 (r : Int) : (Nat → V) → Prop := RR Try.prog [.tmp 4] 0 false (Enc.enc (r : Int))
section
variable {D : Den} {σ : Sig} {F : Nat} {r : Int}
def w_heldIntS_l1 (F : Nat) (x_1 : (List Int))  : Nat → Int → Int → Option Int
  | 0, _, _ => none
  | k + 1, x_4, x_5 =>
    bif decide (x_5 < (x_1.length : Int)) then
      (idx x_1 x_5).bind fun e_7 =>
      bif (e_7 != x_4) then
        some (-1)
      else
        (w_heldIntS_l1 F x_1 k) (w64 (x_4 + 1)) (w64 (x_5 + 1))
    else
      some x_4
theorem t_f31_l1 (H : H31 D σ F) (x_1 : (List Int))  : ∀ (k : Nat) (x_4 : Int) (x_5 : Int) (s : Nat → V), Facts [(0, (eL x_1)), (1, (ji x_4)), (4, (ji 0)), (5, (ji x_5))] s → w_heldIntS_l1 F x_1 k x_4 x_5 = some r → Run D σ (R31 r) (.run A31_1 [.lp A31_1, .bk 0, .sq A31_7]) s := by
  intro k
  induction k with
  | zero => intro x_4 x_5 s _ h; exact nomatch (h : (none : Option _) = some r)
  | succ k ih =>
    intro x_4 x_5 s hs h
    rw [w_heldIntS_l1] at h
    obtain ⟨h0, h1, h4, h5⟩ := hs
    refine .seq (.seq (rg (gm h5 fun h6 => gm h0 fun h7 => gv (ji (x_1.length : Int)) (ev_len (xs := x_1) h7) fun h8 => ?_)))
    refine g2 6 8 (jb (decide (x_5 < (x_1.length : Int)))) h6 h8 fun h9 => ?_
    refine gq (.nsq (run_cond (t := decide (x_5 < (x_1.length : Int))) h9 h (fun h => ?_) (fun h => ?_)))
    · refine .skip (.nsq (.seq (.block (.seq (.seq (rg (gm h0 fun h12 => gm h5 fun h13 => ?_)))))))
      obtain ⟨e_7, E_e_7, h⟩ := bind_some h
      refine gv (.ref .sh 0 [] (ji e_7)) (ev_idx (t := .sh) (lo := 0) (xs := x_1) h12 h13 E_e_7 rfl rfl) fun h14 => ?_
      refine g1 14 (ji e_7) h14 fun h15 => ?_
      refine gm h1 fun h16 => g2 15 16 (jb (e_7 != x_4)) h15 h16 fun h17 => ?_
      refine gq (.nsq (run_cond (t := (e_7 != x_4)) h17 h (fun h => ?_) (fun h => ?_)))
      · refine .seq (rg (g0 (ji (-1)) fun h4 => ?_))
        refine gq (.nsq (.ret ?_))
        have hr := Option.some.inj h
        subst hr
        exact rrA (res_tmp h4) rfl
      refine .skip (.nsq (rg (gm h1 fun h18 => g1 18 (ji (w64 (x_4 + 1))) h18 fun h19 => ?_)))
      refine gm h19 fun h1 => gq (.nbk (.nsq (rg (gm h5 fun h10 => g1 10 (ji (w64 (x_5 + 1))) h10 fun h11 => ?_))))
      refine gm h11 fun h5 => gq (.nlp ?_)
      exact ih (w64 (x_4 + 1)) (w64 (x_5 + 1)) _ ⟨h0, h1, h4, h5⟩ h
    refine .exit (.esq (.elp (.ebk (.nsq (.seq (rg (gm h1 fun h20 => gm h20 fun h4 => gq (.nsq (.ret ?_)))))))))
    have hr := Option.some.inj h
    subst hr
    exact rrA (res_tmp h4) rfl
def w_heldIntS (F : Nat) (x_1 : (List Int)) (x_2 : Int) : Option Int :=
  w_heldIntS_l1 F x_1 F x_2 0
theorem t31 (H : H31 D σ F) (x_1 : (List Int)) (x_2 : Int) (s : Nat → V) (hs : Facts [(0, (eL x_1)), (1, (ji x_2))] s) (h : w_heldIntS F x_1 x_2 = some r) : Run D σ (R31 r) (.run A31 []) s := by
  unfold w_heldIntS at h
  obtain ⟨h0, h1⟩ := hs
  refine .seq (rg (g0 (ji 0) fun h4 => gq (.nsq (.seq (.seq (rg (g0 (ji 0) fun h5 => gq (.nsq (.block (.loop ?_))))))))))
  exact t_f31_l1 H x_1 F x_2 0 _ ⟨h0, h1, h4, h5⟩ h
end
def e31 (F : Nat) : Ent := ent 31 (fun (x : ((List Int) × Int × Unit)) => w_heldIntS F x.1 x.2.1) (fun (r : Int) => (Enc.enc (r : Int))) 0 false []
theorem p31 {F : Nat} {x0 : (List Int)} {x1 : Int} {r : Int} (h : w_heldIntS F x0 x1 = some r) : (e31 F).den [Enc.enc x0, Enc.enc x1] = some (Enc.enc (r : Int)) := ent_put (x0, x1, ()) h
theorem o31 {D : Den} {σ : Sig} {F : Nat} (hF : Fits2 Try.prog D σ) (H : H31 D σ F) : (e31 F).Ok Try.prog := by
  refine ok_of (f := 31) (show unk 31 = 31 from rfl) (fun args r h => ?_) ⟨Try.f31, Try.func31, rfl, rfl⟩
  obtain ⟨⟨x0, x1, _⟩, y, rfl, hy, rfl⟩ := da_open h
  exact contract_run hF (by kernel_rfl) Try.func31 rfl c31 (show 2 ≤ Try.f31.ntmps by decide) (t31 H x0 x1 _ ⟨rfl, rfl⟩ hy)
/- loop.example/g01109/laws.FnExactBestForest -/
def A6_1 : AC := (.cond (.t 87) (.seq (.reg [] [((jv 2 (.mov (.k (.bool false)))))] []) .ret) .skip)
def A6_5 : AC := (.cond (.t 92) (.seq (.reg [] [((jv 2 (.mov (.k (.bool false)))))] []) .ret) .skip)
def A6_7 : AC := (.cond (.t 95) (.seq (.reg [] [((jv 2 (.mov (.k (.bool false)))))] []) .ret) .skip)
def A6_8 : AC := (.seq (.reg [] [((jv 2 (.mov (.k (.bool true)))))] []) .ret)
def A6_6 : AC := (.seq (.seq (.reg [] [(jm 93 11), (jm 94 10), ((jv 95 (.bin .neq (.t 93) (.t 94))))] []) A6_7) A6_8)
def A6_4 : AC := (.seq (.seq (.reg [] [(jm 91 11), ((jv 92 (.bin .lss (.t 91) (jn 0))))] []) A6_5) A6_6)
def A6_3 : AC := (.seq (.reg [] [(jm 88 7), (jm 89 11), (.mk (some 90) none false (.call (.k (.fn 31 [] [])) [(.t 88), (.t 89)])), (jm 11 90)] []) A6_4)
def A6_2 : AC := (.seq (.reg [] [((jv 11 (.mov (jn 1))))] []) A6_3)
def A6_9 : AC := (.cond (.t 61) (.seq (.reg [] [((jv 2 (.mov (.k (.bool false)))))] []) .ret) .skip)
def A6_15 : AC := (.cond (.t 69) (.seq (.reg [] [((jv 2 (.mov (.k (.bool false)))))] []) .ret) .skip)
def A6_17 : AC := (.cond (.t 72) (.seq (.reg [] [((jv 2 (.mov (.k (.bool false)))))] []) .ret) .skip)
def A6_19 : AC := (.seq (.seq (.reg [] [(jm 79 12), (jm 80 4), (.mk (some 81) none false (.call (.k (.fn 21 [] [])) [(.t 79), (.t 80)])), ((jv 82 (.un .not (.t 81)))), (jm 83 82), ((jg 84 83 false (.mov (.t 13)))), ((jg 85 83 false (.mov (.t 5)))), ((jg 86 83 false (.beq true (.t 84) (.t 85)))), ((jv 87 (.pick (.t 83) (.k (.bool true)) (.t 86))))] []) A6_1) A6_2)
def A6_18 : AC := (.seq (.reg [.clr [76]] [((jv 74 (.load (.ag [.s, .p]) (.t 1)))), (.mk (some 75) none false (.call (.k (.fn 17 [] [])) [(.t 74)])), (.mk (some 76) none false (.callO (.k (.fn 35 [] [])) [(.t 75)])), (jm 73 76), ((jv 77 (.ext (.t 73) 0))), ((jv 78 (.extS (.t 73) 1))), (jm 12 77), (jm 13 78)] [.home 76 12]) A6_19)
def A6_16 : AC := (.seq (.seq (.reg [] [(jm 70 11), (jm 71 10), ((jv 72 (.bin .neq (.t 70) (.t 71))))] []) A6_17) A6_18)
def A6_14 : AC := (.seq (.seq (.reg [] [(jm 68 11), ((jv 69 (.bin .lss (.t 68) (jn 0))))] []) A6_15) A6_16)
def A6_13 : AC := (.seq (.reg [] [(jm 65 7), (jm 66 11), (.mk (some 67) none false (.call (.k (.fn 31 [] [])) [(.t 65), (.t 66)])), (jm 11 67)] []) A6_14)
def A6_12 : AC := (.seq (.reg [] [((jv 11 (.mov (jn 1))))] []) A6_13)
def A6_11 : AC := (.seq (.reg [] [(jm 62 7), (jm 63 10), (.mk (some 64) none false (.mark (.k (.fn 23 [] [])) [(.t 62), (.t 63)])), (jm 10 64)] []) A6_12)
def A6_10 : AC := (.seq (.reg [] [((jv 10 (.mov (jn 1))))] []) A6_11)
def A6_20 : AC := (.cond (.t 40) (.seq (.reg [] [((jv 2 (.mov (.k (.bool false)))))] []) .ret) .skip)
def A6_22 : AC := (.cond (.t 45) (.seq (.reg [] [((jv 2 (.mov (.k (.bool false)))))] []) .ret) .skip)
def A6_25 : AC := (.seq (.seq (.reg [] [(jm 49 9), ((jv 50 (.bin .lss (.t 49) (jn 0)))), (jm 51 50), ((jg 52 51 false (.mov (.t 7)))), ((jg 53 51 false (.mov (.t 4)))), (.mk (some 54) (some (51, false)) false (.call (.k (.fn 21 [] [])) [(.t 52), (.t 53)])), ((jg 55 51 false (.un .not (.t 54)))), ((jv 56 (.pick (.t 51) (.k (.bool true)) (.t 55)))), (jm 57 56), ((jg 58 57 false (.mov (.t 8)))), ((jg 59 57 false (.mov (.t 5)))), ((jg 60 57 false (.beq true (.t 58) (.t 59)))), ((jv 61 (.pick (.t 57) (.k (.bool true)) (.t 60))))] []) A6_9) A6_10)
def A6_24 : AC := (.seq (.reg [] [((jv 46 (.load (.ag [.s, .p]) (.t 6)))), (jm 47 9), (.mk (some 48) none false (.mark (.k (.fn 22 [] [])) [(.t 46), (.t 47)])), (jm 9 48)] []) A6_25)
def A6_23 : AC := (.seq (.reg [] [((jv 9 (.mov (jn 1))))] []) A6_24)
def A6_21 : AC := (.seq (.seq (.reg [] [((jv 41 (.load (.ag [.s, .p]) (.t 6)))), ((jv 42 (.load (.ag [.s, .p]) (.t 1)))), (.mk (some 43) none false (.call (.k (.fn 17 [] [])) [(.t 42)])), (.mk (some 44) none false (.call (.k (.fn 20 [] [])) [(.t 41), (.t 43)])), ((jv 45 (.un .not (.t 44))))] []) A6_22) A6_23)
def A6_29 : AC := (.cond (.t 18) (.seq (.reg [] [((jv 2 (.mov (.k (.bool true)))))] []) .ret) .skip)
def A6_33 : AC := (.seq (.seq (.reg [] [(jm 32 7), (jm 33 4), (.mk (some 34) none false (.call (.k (.fn 21 [] [])) [(.t 32), (.t 33)])), ((jv 35 (.un .not (.t 34)))), (jm 36 35), ((jg 37 36 false (.mov (.t 8)))), ((jg 38 36 false (.mov (.t 5)))), ((jg 39 36 false (.beq true (.t 37) (.t 38)))), ((jv 40 (.pick (.t 36) (.k (.bool true)) (.t 39))))] []) A6_20) A6_21)
def A6_32 : AC := (.seq (.reg [.clr [29]] [((jv 28 (.load (.ag [.s, .p]) (.t 6)))), (.mk (some 29) none false (.callO (.k (.fn 35 [] [])) [(.t 28)])), (jm 27 29), ((jv 30 (.ext (.t 27) 0))), ((jv 31 (.extS (.t 27) 1))), (jm 7 30), (jm 8 31)] [.home 29 7]) A6_33)
def A6_31 : AC := (.seq (.reg [.clr [26, 6]] [((jv 25 (.load (.ag [.s, .p]) (.t 1)))), (.mk (some 26) none false (.callO (.k (.fn 17 [] [])) [(.t 25)])), (.mk (some 6) none false (.alloc (.agg [(.int .i64 (.ofNat 0)), (.sl .nl (.ag [.s, .s]) 0 [])]))), (.mk none none false (.store (.ag [.s, .p]) (.t 6) (.t 26)))] []) A6_32)
def A6_30 : AC := (.seq (.reg [] [((jv 20 (.load (.ag [.s, .p]) (.t 1)))), (.mk (some 21) none false (.call (.k (.fn 17 [] [])) [(.t 20)])), (.mk (some 22) none false (.call (.k (.fn 34 [] [])) [(.t 21)])), (jm 19 22), ((jv 23 (.ext (.t 19) 0))), ((jv 24 (.extS (.t 19) 1))), (jm 4 23), (jm 5 24)] []) A6_31)
def A6_28 : AC := (.seq (.seq (.reg [] [(jm 17 3), ((jv 18 (.bin .lss (.t 17) (jn 0))))] []) A6_29) A6_30)
def A6_27 : AC := (.seq (.reg [] [((jv 14 (.load (.ag [.s, .p]) (.t 1)))), (jm 15 3), (.mk (some 16) none false (.call (.k (.fn 15 [] [])) [(.t 14), (.t 15)])), (jm 3 16)] []) A6_28)
def A6_26 : AC := (.seq (.reg [] [((jv 3 (.mov (jn 1048576))))] []) A6_27)
def A6 : AC := (.seq (.reg [.clr [1]] [(.mk (some 1) none false (.box (.t 0))), ((jv 2 (.mov (.k (.bool false)))))] []) A6_26)
def an6 : List An := [{ id := 0, pre := [.clr [1]], ep := [], lin := [], sp := [] }, { id := 6, pre := [.clr [26, 6]], ep := [], lin := [], sp := [1001] }, { id := 7, pre := [.clr [29]], ep := [.home 29 7], lin := [], sp := [1001] }, { id := 13, pre := [], ep := [], lin := [], sp := [2] }, { id := 17, pre := [], ep := [], lin := [], sp := [2] }, { id := 24, pre := [.clr [76]], ep := [.home 76 12], lin := [], sp := [1002] }]
theorem c6 : cC Try.prog Try.f6.ntmps an6 (Try.f6.body.getD .skip) = some A6 := by kernel_rfl
structure H6 (D : Den) (σ : Sig) (F : Nat) : Prop where
  c15 : ∀ (x0 : (Int × (List (Int × Int)))) (x1 : Int) r, w_szGraph F x0 x1 = some r → D 15 [Enc.enc x0, Enc.enc x1] = some (Enc.enc (r : Int))
  g15 : σ 15 = some (0, false)
  c17 : ∀ (x0 : (Int × (List (Int × Int)))) r, w_toGraph F x0 = some r → D 17 [Enc.enc x0] = some (Enc.enc (r : (Int × (List (Int × Int)))))
  g17 : σ 17 = some (0, true)
  c34 : ∀ (x0 : (Int × (List (Int × Int)))) r, s_BestForest F x0 = some r → D 34 [Enc.enc x0] = some (.tup [Enc.enc (r.1 : (List Int)), Enc.enc (r.2 : Bool)])
  g34 : σ 34 = some (0, true)
  c17o : ∀ (x0 : (Int × (List (Int × Int)))) r, w_toGraph_o F x0 = some r → D 1000000017 [Enc.enc x0] = some (.agg [(Enc.enc (r.1 : Int)), (encO .sh (r.2 : NL (Int × Int)))])
  g17o : σ 1000000017 = some (1, false)
  c35o : ∀ (x0 : (Int × (List (Int × Int)))) r, i_BestForest_o F x0 = some r → D 1000000035 [Enc.enc x0] = some (.tup [(encO .sh (r.1 : NL Int)), (Enc.enc (r.2 : Bool))])
  g35o : σ 1000000035 = some (1, false)
  c21 : ∀ (x0 : (List Int)) (x1 : (List Int)) r, w_eqIntS F x0 x1 = some r → D 21 [Enc.enc x0, Enc.enc x1] = some (Enc.enc (r : Bool))
  g21 : σ 21 = some (0, false)
  c20 : ∀ (x0 : (Int × (List (Int × Int)))) (x1 : (Int × (List (Int × Int)))) r, w_eqGraph F x0 x1 = some r → D 20 [Enc.enc x0, Enc.enc x1] = some (Enc.enc (r : Bool))
  g20 : σ 20 = some (0, false)
  c22 : ∀ (x0 : (Og (Int × Int))) (x1 : Int) r, w_markGraph F x0 x1 = some r → D 22 [Arg.arg x0, Enc.enc x1] = some (.tup [Enc.enc (r.1 : Int), .agg [Enc.enc (r.2.a : Int), encO (.at pinR [1]) (r.2.v : NL (Int × Int))]])
  g22 : σ 22 = some (pinR, false)
  c23 : ∀ (x0 : (On Int)) (x1 : Int) r, w_markIntS F x0 x1 = some r → D 23 [Arg.arg x0, Enc.enc x1] = some (.tup [Enc.enc (r.1 : Int), encO (.at pinR []) (r.2 : NL Int)])
  g23 : σ 23 = some (pinR, false)
  c31 : ∀ (x0 : (List Int)) (x1 : Int) r, w_heldIntS F x0 x1 = some r → D 31 [Enc.enc x0, Enc.enc x1] = some (Enc.enc (r : Int))
  g31 : σ 31 = some (0, false)
abbrev R6 (r : Bool) : (Nat → V) → Prop := RR Try.prog [.tmp 2] 0 false (Enc.enc (r : Bool))
section
variable {D : Den} {σ : Sig} {F : Nat} {r : Bool}
def w_FnExactBestForest_j1 (F : Nat) (m_15 : (NL Int)) (r_14 : (Int × (NL Int)))  (x_20 : Bool) : Option Bool :=
  bif x_20 then
    some false
  else
    (w_heldIntS F m_15.list 1).bind fun r_21 =>
    bif decide (r_21 < 0) then
      some false
    else
      bif (r_21 != r_14.1) then
        some false
      else
        some true
theorem t_f6_j1 (H : H6 D σ F) (m_15 : (NL Int)) (r_14 : (Int × (NL Int)))  (x_20 : Bool) (s : Nat → V) (hs : Facts [(2, (jb false)), (7, (oI 7 [0] m_15)), (10, (ji r_14.1)), (87, (jb x_20))] s) (h : w_FnExactBestForest_j1 F m_15 r_14  x_20 = some r) : Run D σ (R6 r) (.nrm [.sq A6_1, .sq A6_2]) s := by
  unfold w_FnExactBestForest_j1 at h
  obtain ⟨h2, h7, h10, h87⟩ := hs
  refine .nsq (run_cond (t := x_20) h87 h (fun h => ?_) (fun h => ?_))
  · refine .seq (rg (g0 (jb false) fun h2 => ?_))
    refine gq (.nsq (.ret ?_))
    have hr := Option.some.inj h
    subst hr
    exact rrA (res_tmp h2) rfl
  refine .skip (.nsq (.seq (rg (g0 (ji 1) fun h11 => gq (.nsq (.seq (rg (gv (oI 7 [0] m_15) (ev_mov h7 ok_encO) fun h88 => ?_))))))))
  refine gm h11 fun h89 => ?_
  obtain ⟨r_21, E_r_21, h⟩ := bind_some h
  refine g_call (m := 0) (al := false) (r := (Enc.enc (r_21 : Int))) [Enc.enc (m_15.list : (List Int)), Enc.enc (1 : Int)] (ta_cons (v := (oI 7 [0] m_15)) h88 ok_encP (erase_encO (o := m_15)) (ta_cons (v := (ji 1)) h89 rfl rfl ta_nil)) (H.c31 _ _ _ E_r_21) H.g31 rfl rfl rfl rfl ?_
  refine gm (rfl : (_ : V) = (ji r_21)) fun h11 => ?_
  refine gq (.nsq (.seq (.seq (rg (gm h11 fun h91 => g1 91 (jb (decide (r_21 < 0))) h91 fun h92 => ?_)))))
  refine gq (.nsq (run_cond (t := decide (r_21 < 0)) h92 h (fun h => ?_) (fun h => ?_)))
  · refine .seq (rg (g0 (jb false) fun h2 => ?_))
    refine gq (.nsq (.ret ?_))
    have hr := Option.some.inj h
    subst hr
    exact rrA (res_tmp h2) rfl
  refine .skip (.nsq (.seq (.seq (rg (gm h11 fun h93 => gm h10 fun h94 => g2 93 94 (jb (r_21 != r_14.1)) h93 h94 fun h95 => ?_)))))
  refine gq (.nsq (run_cond (t := (r_21 != r_14.1)) h95 h (fun h => ?_) (fun h => ?_)))
  · refine .seq (rg (g0 (jb false) fun h2 => ?_))
    refine gq (.nsq (.ret ?_))
    have hr := Option.some.inj h
    subst hr
    exact rrA (res_tmp h2) rfl
  refine .skip (.nsq (.seq (rg (g0 (jb true) fun h2 => ?_))))
  refine gq (.nsq (.ret ?_))
  have hr := Option.some.inj h
  subst hr
  exact rrA (res_tmp h2) rfl
def w_FnExactBestForest_j2 (F : Nat) (x_1 : (Int × (List (Int × Int)))) (r_4 : ((List Int) × Bool)) (r_6 : ((NL Int) × Bool))  (x_13 : Bool) : Option Bool :=
  bif x_13 then
    some false
  else
    (w_markIntS F (On.mk r_6.1 : (On Int)) 1).bind fun r_14 =>
    (remark r_6.1 r_14.2).bind fun m_15 =>
    (w_heldIntS F m_15.list 1).bind fun r_16 =>
    bif decide (r_16 < 0) then
      some false
    else
      bif (r_16 != r_14.1) then
        some false
      else
        (w_toGraph F x_1).bind fun r_17 =>
        (i_BestForest_o F r_17).bind fun r_18 =>
        (w_eqIntS F r_18.1.list r_4.1).bind fun r_22 =>
        bif (!r_22) then
          w_FnExactBestForest_j1 F m_15 r_14 true
        else
          w_FnExactBestForest_j1 F m_15 r_14 (r_18.2 != r_4.2)
theorem t_f6_j2 (H : H6 D σ F) (x_1 : (Int × (List (Int × Int)))) (r_4 : ((List Int) × Bool)) (r_6 : ((NL Int) × Bool))  (x_13 : Bool) (s : Nat → V) (hs : Facts [(1, (.ref (.bx 1) 0 [] (.agg [(ji x_1.1), (Enc.enc (x_1.2 : List (Int × Int)))]))), (2, (jb false)), (4, (eL r_4.1)), (5, (jb r_4.2)), (7, (oI 7 [0] r_6.1)), (61, (jb x_13))] s) (h : w_FnExactBestForest_j2 F x_1 r_4 r_6  x_13 = some r) : Run D σ (R6 r) (.nrm [.sq A6_9, .sq A6_10]) s := by
  unfold w_FnExactBestForest_j2 at h
  obtain ⟨h1, h2, h4, h5, h7, h61⟩ := hs
  refine .nsq (run_cond (t := x_13) h61 h (fun h => ?_) (fun h => ?_))
  · refine .seq (rg (g0 (jb false) fun h2 => ?_))
    refine gq (.nsq (.ret ?_))
    have hr := Option.some.inj h
    subst hr
    exact rrA (res_tmp h2) rfl
  refine .skip (.nsq (.seq (rg (g0 (ji 1) fun h10 => gq (.nsq (.seq (rg (gv (oI 7 [0] r_6.1) (ev_mov h7 ok_encO) fun h62 => ?_))))))))
  refine gm h10 fun h63 => ?_
  obtain ⟨r_14, E_r_14, h⟩ := bind_some h
  obtain ⟨m_15, E_m_15, h⟩ := bind_some h
  refine g_mark (v := (oI 7 [0] r_6.1)) h62 (canon_own (o := (r_6.1 : (NL Int))) rfl) (rdAll_cons (v := (ji 1)) h63 rfl rdAll_nil) (H.c23 _ _ _ E_r_14) H.g23 rfl rfl (fun s_6 hm_6 => ?_)
  refine gm (rfl : (_ : V) = (ji r_14.1)) fun h10 => ?_
  refine gz [(1, (.ref (.bx 1) 0 [] (.agg [(ji x_1.1), (Enc.enc (x_1.2 : List (Int × Int)))]))), (2, (jb false)), (4, _), (5, (jb r_4.2)), (7, (oI 7 [0] m_15)), (10, _)] ⟨(show s_6 1 = (.ref (.bx 1) 0 [] (.agg [(ji x_1.1), (Enc.enc (x_1.2 : List (Int × Int)))])) from hm_6 1 (.ref (.bx 1) 0 [] (.agg [(ji x_1.1), (Enc.enc (x_1.2 : List (Int × Int)))])) (.ref (.bx 1) 0 [] (.agg [(ji x_1.1), (Enc.enc (x_1.2 : List (Int × Int)))])) h1 (rem_self _ (map_bx (killO_ne rfl) (map_agg (maps_cons rfl (maps_cons (Enc.map_enc _ (x_1.2 : List (Int × Int))) maps_nil)))))), (show s_6 2 = (jb false) from hm_6 2 (jb false) (jb false) h2 (rem_self _ rfl)), (show s_6 4 = (eL r_4.1) from hm_6 4 (eL r_4.1) (eL r_4.1) h4 (rem_enc (xs := (r_4.1 : List Int)))), (show s_6 5 = (jb r_4.2) from hm_6 5 (jb r_4.2) (jb r_4.2) h5 (rem_self _ rfl)), (show s_6 7 = (oI 7 [0] m_15) from hm_6 7 (oI 7 [0] r_6.1) (oI 7 [0] m_15) h7 (marked_own (o := (r_6.1 : NL Int)) rfl E_m_15)), h10⟩ ?_
  rintro s ⟨h1, h2, h4, h5, h7, h10⟩
  refine .nsq (.seq (rg (g0 (ji 1) fun h11 => gq (.nsq (.seq (rg (gv (oI 7 [0] m_15) (ev_mov h7 ok_encO) fun h65 => ?_)))))))
  refine gm h11 fun h66 => ?_
  obtain ⟨r_16, E_r_16, h⟩ := bind_some h
  refine g_call (m := 0) (al := false) (r := (Enc.enc (r_16 : Int))) [Enc.enc (m_15.list : (List Int)), Enc.enc (1 : Int)] (ta_cons (v := (oI 7 [0] m_15)) h65 ok_encP (erase_encO (o := m_15)) (ta_cons (v := (ji 1)) h66 rfl rfl ta_nil)) (H.c31 _ _ _ E_r_16) H.g31 rfl rfl rfl rfl ?_
  refine gm (rfl : (_ : V) = (ji r_16)) fun h11 => ?_
  refine gq (.nsq (.seq (.seq (rg (gm h11 fun h68 => g1 68 (jb (decide (r_16 < 0))) h68 fun h69 => ?_)))))
  refine gq (.nsq (run_cond (t := decide (r_16 < 0)) h69 h (fun h => ?_) (fun h => ?_)))
  · refine .seq (rg (g0 (jb false) fun h2 => ?_))
    refine gq (.nsq (.ret ?_))
    have hr := Option.some.inj h
    subst hr
    exact rrA (res_tmp h2) rfl
  refine .skip (.nsq (.seq (.seq (rg (gm h11 fun h70 => gm h10 fun h71 => g2 70 71 (jb (r_16 != r_14.1)) h70 h71 fun h72 => ?_)))))
  refine gq (.nsq (run_cond (t := (r_16 != r_14.1)) h72 h (fun h => ?_) (fun h => ?_)))
  · refine .seq (rg (g0 (jb false) fun h2 => ?_))
    refine gq (.nsq (.ret ?_))
    have hr := Option.some.inj h
    subst hr
    exact rrA (res_tmp h2) rfl
  refine .skip (.nsq (.seq (run_reg ?_)))
  refine e_clr ?_
  refine ez [(1, _), (2, _), (4, _), (5, _), (7, _), (10, _), (76, _)] ⟨(keep_clear (pk := [76]) h1 rfl (map_bx rfl (map_agg (maps_cons mi (maps_cons me maps_nil))))), (keep_clear (pk := [76]) h2 rfl mb), (keep_clear (pk := [76]) h4 rfl me), (keep_clear (pk := [76]) h5 rfl mb), (keep_clear (pk := [76]) h7 rfl (map_encO (r := 7) (p := [0]) rfl rfl)), (keep_clear (pk := [76]) h10 rfl mi), (gone_clear (pk := [76]) (t := 76) rfl)⟩ ?_
  rintro s ⟨h1, h2, h4, h5, h7, h10, h76⟩
  refine g1 1 (.agg [(ji x_1.1), (Enc.enc (x_1.2 : List (Int × Int)))]) h1 fun h74 => ?_
  obtain ⟨r_17, E_r_17, h⟩ := bind_some h
  refine g_call (m := 0) (al := true) (r := (Enc.enc (r_17 : (Int × (List (Int × Int)))))) [Enc.enc (x_1 : (Int × (List (Int × Int))))] (ta_cons (v := (.agg [(ji x_1.1), (Enc.enc (x_1.2 : List (Int × Int)))])) h74 rfl (Enc.erase_enc (x_1 : (Int × (List (Int × Int))))) ta_nil) (H.c17 _ _ E_r_17) H.g17 (hal_of (ht_cons (v := (.agg [(ji x_1.1), (Enc.enc (x_1.2 : List (Int × Int)))])) h74 rfl rfl ht_nil)) rfl rfl rfl ?_
  obtain ⟨r_18, E_r_18, h⟩ := bind_some h
  refine g_callO (m := 1) (al := false) (r := (.tup [(encO .sh (r_18.1 : NL Int)), (Enc.enc (r_18.2 : Bool))])) (v := (.tup [(oI 76 [0] r_18.1), (jb r_18.2)])) (kk := 1000000035) [Enc.enc (r_17 : (Int × (List (Int × Int))))] (ta_cons (v := (.agg [(ji r_17.1), (Enc.enc (r_17.2 : List (Int × Int)))])) rfl rfl (Enc.erase_enc (r_17 : (Int × (List (Int × Int))))) ta_nil) (H.c35o _ _ E_r_18) H.g35o rfl (toks_tup (tokss_cons toks_encS (tokss_cons rfl tokss_nil))) (tag_tup (tags_cons tag_encO (tags_cons rfl tags_nil))) rfl h76 ?_
  refine gm (rfl : (_ : V) = (.tup [(oI 76 [0] r_18.1), (jb r_18.2)])) fun h73 => ?_
  refine gv (oI 76 [0] r_18.1) (ev_extN (v := (oI 76 [0] r_18.1)) h73 rfl ok_encP) fun h77 => ?_
  refine g1 73 (jb r_18.2) h73 fun h78 => ?_
  refine gv (oI 76 [0] r_18.1) (ev_mov h77 ok_encO) fun h12 => ?_
  refine gm h78 fun h13 => g_end ?_
  refine e_home (r := 76) (x := 12) (v := _) h12 ok_encO (fun s_8 hg_8 => ?_)
  refine ez [(2, (jb false)), (4, (eL r_4.1)), (5, (jb r_4.2)), (7, (oI 7 [0] m_15)), (10, (ji r_14.1)), (12, (oI 12 [0] r_18.1)), (13, (jb r_18.2))] ⟨(hg_8 2 _ _ h2 mb), (hg_8 4 _ _ h4 me), (hg_8 5 _ _ h5 mb), (hg_8 7 _ _ h7 (map_encO (r := 7) (p := [0]) rfl rfl)), (hg_8 10 _ _ h10 mi), (hg_8 12 _ _ h12 (map_encO (r := 76) (p := [0]) rfl rfl)), (hg_8 13 _ _ h13 mb)⟩ ?_
  rintro s ⟨h2, h4, h5, h7, h10, h12, h13⟩
  refine .nsq (.seq (.seq (rg (gv (oI 12 [0] r_18.1) (ev_mov h12 ok_encO) fun h79 => ?_))))
  refine gm h4 fun h80 => ?_
  obtain ⟨r_22, E_r_22, h⟩ := bind_some h
  refine g_call (m := 0) (al := false) (r := (Enc.enc (r_22 : Bool))) [Enc.enc (r_18.1.list : (List Int)), Enc.enc (r_4.1 : (List Int))] (ta_cons (v := (oI 12 [0] r_18.1)) h79 ok_encP (erase_encO (o := r_18.1)) (ta_cons (v := (eL r_4.1)) h80 rfl (Enc.erase_enc (r_4.1 : (List Int))) ta_nil)) (H.c21 _ _ _ E_r_22) H.g21 rfl rfl rfl rfl ?_
  refine g1 81 (jb (!r_22)) (rfl : (_ : V) = (jb r_22)) fun h82 => ?_
  refine gm h82 fun h83 => split_on (c := (!r_22)) h (fun hg5 h => ?_) (fun hg5 h => ?_)
  · refine g_no (h83.trans (congrArg V.bool hg5)) ?_
    refine g_no (h83.trans (congrArg V.bool hg5)) ?_
    refine g_no (h83.trans (congrArg V.bool hg5)) ?_
    refine g2 83 86 (jb true) (h83.trans (congrArg V.bool hg5)) (rfl : (_ : V) = (.tup [])) fun h87 => ?_
    refine gq ?_
    exact t_f6_j1 H m_15 r_14 true _ ⟨h2, h7, h10, h87⟩ h
  refine g_yes (h83.trans (congrArg V.bool hg5)) (gm h13 fun h84 => ?_)
  refine g_yes (h83.trans (congrArg V.bool hg5)) (gm h5 fun h85 => ?_)
  refine g_yes (h83.trans (congrArg V.bool hg5)) (g2 84 85 (jb (r_18.2 != r_4.2)) h84 h85 fun h86 => ?_)
  refine g2 83 86 (jb (r_18.2 != r_4.2)) (h83.trans (congrArg V.bool hg5)) h86 fun h87 => ?_
  refine gq ?_
  exact t_f6_j1 H m_15 r_14 (r_18.2 != r_4.2) _ ⟨h2, h7, h10, h87⟩ h
def w_FnExactBestForest_j3 (F : Nat) (x_1 : (Int × (List (Int × Int)))) (r_4 : ((List Int) × Bool)) (r_5 : (Int × (NL (Int × Int)))) (r_6 : ((NL Int) × Bool))  (x_8 : Bool) : Option Bool :=
  bif x_8 then
    some false
  else
    (w_toGraph F x_1).bind fun r_9 =>
    (w_eqGraph F (r_5.1, r_5.2.list) r_9).bind fun r_10 =>
    bif (!r_10) then
      some false
    else
      (w_markGraph F (Og.mk r_5.1 r_5.2 : (Og (Int × Int))) 1).bind fun r_11 =>
      bif decide (r_11.1 < 0) then
        w_FnExactBestForest_j2 F x_1 r_4 r_6 true
      else
        (w_eqIntS F r_6.1.list r_4.1).bind fun r_23 =>
        bif (!r_23) then
          w_FnExactBestForest_j2 F x_1 r_4 r_6 true
        else
          w_FnExactBestForest_j2 F x_1 r_4 r_6 (r_6.2 != r_4.2)
theorem t_f6_j3 (H : H6 D σ F) (x_1 : (Int × (List (Int × Int)))) (r_4 : ((List Int) × Bool)) (r_5 : (Int × (NL (Int × Int)))) (r_6 : ((NL Int) × Bool))  (x_8 : Bool) (s : Nat → V) (hs : Facts [(1, (.ref (.bx 1) 0 [] (.agg [(ji x_1.1), (Enc.enc (x_1.2 : List (Int × Int)))]))), (2, (jb false)), (4, (eL r_4.1)), (5, (jb r_4.2)), (6, (.ref (.bx 6) 0 [] (.agg [(ji r_5.1), (encO (.at 26 [1]) (r_5.2 : NL (Int × Int)))]))), (7, (oI 7 [0] r_6.1)), (8, (jb r_6.2)), (40, (jb x_8))] s) (h : w_FnExactBestForest_j3 F x_1 r_4 r_5 r_6  x_8 = some r) : Run D σ (R6 r) (.nrm [.sq A6_20, .sq A6_21]) s := by
  unfold w_FnExactBestForest_j3 at h
  obtain ⟨h1, h2, h4, h5, h6, h7, h8, h40⟩ := hs
  refine .nsq (run_cond (t := x_8) h40 h (fun h => ?_) (fun h => ?_))
  · refine .seq (rg (g0 (jb false) fun h2 => ?_))
    refine gq (.nsq (.ret ?_))
    have hr := Option.some.inj h
    subst hr
    exact rrA (res_tmp h2) rfl
  refine .skip (.nsq (.seq (.seq (rg (gv (.agg [(ji r_5.1), (encO (.at 26 [1]) (r_5.2 : NL (Int × Int)))]) (ev_loadN (c := (.agg [(ji r_5.1), (encO (.at 26 [1]) (r_5.2 : NL (Int × Int)))])) h6 (by simp [V.shape, V.shapes, shape_encP, shape_encN, Sh.beq, Sh.beqs])) fun h41 => ?_)))))
  refine g1 1 (.agg [(ji x_1.1), (Enc.enc (x_1.2 : List (Int × Int)))]) h1 fun h42 => ?_
  obtain ⟨r_9, E_r_9, h⟩ := bind_some h
  refine g_call (m := 0) (al := true) (r := (Enc.enc (r_9 : (Int × (List (Int × Int)))))) [Enc.enc (x_1 : (Int × (List (Int × Int))))] (ta_cons (v := (.agg [(ji x_1.1), (Enc.enc (x_1.2 : List (Int × Int)))])) h42 rfl (Enc.erase_enc (x_1 : (Int × (List (Int × Int))))) ta_nil) (H.c17 _ _ E_r_9) H.g17 (hal_of (ht_cons (v := (.agg [(ji x_1.1), (Enc.enc (x_1.2 : List (Int × Int)))])) h42 rfl rfl ht_nil)) rfl rfl rfl ?_
  obtain ⟨r_10, E_r_10, h⟩ := bind_some h
  refine g_call (m := 0) (al := false) (r := (Enc.enc (r_10 : Bool))) [Enc.enc ((r_5.1, r_5.2.list) : (Int × (List (Int × Int)))), Enc.enc (r_9 : (Int × (List (Int × Int))))] (ta_cons (v := (.agg [(ji r_5.1), (encO (.at 26 [1]) (r_5.2 : NL (Int × Int)))])) h41 rfl (erase_agg (erases_cons rfl (erases_cons (erase_encO (o := r_5.2)) erases_nil))) (ta_cons (v := (.agg [(ji r_9.1), (Enc.enc (r_9.2 : List (Int × Int)))])) rfl rfl (Enc.erase_enc (r_9 : (Int × (List (Int × Int))))) ta_nil)) (H.c20 _ _ _ E_r_10) H.g20 rfl rfl rfl rfl ?_
  refine g1 44 (jb (!r_10)) (rfl : (_ : V) = (jb r_10)) fun h45 => ?_
  refine gq (.nsq (run_cond (t := (!r_10)) h45 h (fun h => ?_) (fun h => ?_)))
  · refine .seq (rg (g0 (jb false) fun h2 => ?_))
    refine gq (.nsq (.ret ?_))
    have hr := Option.some.inj h
    subst hr
    exact rrA (res_tmp h2) rfl
  refine .skip (.nsq (.seq (rg (g0 (ji 1) fun h9 => gq (.nsq (.seq (rg (gv (.agg [(ji r_5.1), (encO (.at 26 [1]) (r_5.2 : NL (Int × Int)))]) (ev_loadN (c := (.agg [(ji r_5.1), (encO (.at 26 [1]) (r_5.2 : NL (Int × Int)))])) h6 (by simp [V.shape, V.shapes, shape_encP, shape_encN, Sh.beq, Sh.beqs])) fun h46 => ?_))))))))
  refine gm h9 fun h47 => ?_
  obtain ⟨r_11, E_r_11, h⟩ := bind_some h
  refine g_mark (v := (.agg [(ji r_5.1), (encO (.at 26 [1]) (r_5.2 : NL (Int × Int)))])) h46 (canon_agg (a := r_5.1) (o := (r_5.2 : NL (Int × Int))) rfl) (rdAll_cons (v := (ji 1)) h47 rfl rdAll_nil) (H.c22 _ _ _ E_r_11) H.g22 rfl rfl (fun s_5 hm_5 => ?_)
  refine gm (rfl : (_ : V) = (ji r_11.1)) fun h9 => ?_
  refine gz [(1, (.ref (.bx 1) 0 [] (.agg [(ji x_1.1), (Enc.enc (x_1.2 : List (Int × Int)))]))), (2, (jb false)), (4, _), (5, (jb r_4.2)), (7, (oI 7 [0] r_6.1)), (8, (jb r_6.2)), (9, _)] ⟨(show s_5 1 = (.ref (.bx 1) 0 [] (.agg [(ji x_1.1), (Enc.enc (x_1.2 : List (Int × Int)))])) from hm_5 1 (.ref (.bx 1) 0 [] (.agg [(ji x_1.1), (Enc.enc (x_1.2 : List (Int × Int)))])) (.ref (.bx 1) 0 [] (.agg [(ji x_1.1), (Enc.enc (x_1.2 : List (Int × Int)))])) h1 (rem_self _ (map_bx (killO_ne rfl) (map_agg (maps_cons rfl (maps_cons (Enc.map_enc _ (x_1.2 : List (Int × Int))) maps_nil)))))), (show s_5 2 = (jb false) from hm_5 2 (jb false) (jb false) h2 (rem_self _ rfl)), (show s_5 4 = (eL r_4.1) from hm_5 4 (eL r_4.1) (eL r_4.1) h4 (rem_enc (xs := (r_4.1 : List Int)))), (show s_5 5 = (jb r_4.2) from hm_5 5 (jb r_4.2) (jb r_4.2) h5 (rem_self _ rfl)), (show s_5 7 = (oI 7 [0] r_6.1) from hm_5 7 (oI 7 [0] r_6.1) (oI 7 [0] r_6.1) h7 (rem_self _ (map_encO (r := 7) (p := [0]) (killO_ne rfl) (killO_ne rfl)))), (show s_5 8 = (jb r_6.2) from hm_5 8 (jb r_6.2) (jb r_6.2) h8 (rem_self _ rfl)), h9⟩ ?_
  rintro s ⟨h1, h2, h4, h5, h7, h8, h9⟩
  refine .nsq (.seq (.seq (rg (gm h9 fun h49 => g1 49 (jb (decide (r_11.1 < 0))) h49 fun h50 => ?_))))
  refine gm h50 fun h51 => split_on (c := decide (r_11.1 < 0)) h (fun hg3 h => ?_) (fun hg3 h => ?_)
  · refine g_no (h51.trans (congrArg V.bool hg3)) ?_
    refine g_no (h51.trans (congrArg V.bool hg3)) ?_
    refine g_no (h51.trans (congrArg V.bool hg3)) ?_
    refine g_no (h51.trans (congrArg V.bool hg3)) ?_
    refine g2 51 55 (jb true) (h51.trans (congrArg V.bool hg3)) (rfl : (_ : V) = (.tup [])) fun h56 => ?_
    refine gm h56 fun h57 => g_no h57 ?_
    refine g_no h57 ?_
    refine g_no h57 ?_
    refine g2 57 60 (jb true) h57 (rfl : (_ : V) = (.tup [])) fun h61 => ?_
    refine gq ?_
    exact t_f6_j2 H x_1 r_4 r_6 true _ ⟨h1, h2, h4, h5, h7, h61⟩ h
  refine g_yes (h51.trans (congrArg V.bool hg3)) (gv (oI 7 [0] r_6.1) (ev_mov h7 ok_encO) fun h52 => ?_)
  refine g_yes (h51.trans (congrArg V.bool hg3)) (gm h4 fun h53 => ?_)
  obtain ⟨r_23, E_r_23, h⟩ := bind_some h
  refine g_yes (h51.trans (congrArg V.bool hg3)) (g_call (m := 0) (al := false) (r := (Enc.enc (r_23 : Bool))) [Enc.enc (r_6.1.list : (List Int)), Enc.enc (r_4.1 : (List Int))] (ta_cons (v := (oI 7 [0] r_6.1)) h52 ok_encP (erase_encO (o := r_6.1)) (ta_cons (v := (eL r_4.1)) h53 rfl (Enc.erase_enc (r_4.1 : (List Int))) ta_nil)) (H.c21 _ _ _ E_r_23) H.g21 rfl rfl rfl rfl ?_)
  refine g_yes (h51.trans (congrArg V.bool hg3)) (g1 54 (jb (!r_23)) (rfl : (_ : V) = (jb r_23)) fun h55 => ?_)
  refine g2 51 55 (jb (!r_23)) (h51.trans (congrArg V.bool hg3)) h55 fun h56 => ?_
  refine gm h56 fun h57 => split_on (c := (!r_23)) h (fun hg9 h => ?_) (fun hg9 h => ?_)
  · refine g_no (h57.trans (congrArg V.bool hg9)) ?_
    refine g_no (h57.trans (congrArg V.bool hg9)) ?_
    refine g_no (h57.trans (congrArg V.bool hg9)) ?_
    refine g2 57 60 (jb true) (h57.trans (congrArg V.bool hg9)) (rfl : (_ : V) = (.tup [])) fun h61 => ?_
    refine gq ?_
    exact t_f6_j2 H x_1 r_4 r_6 true _ ⟨h1, h2, h4, h5, h7, h61⟩ h
  refine g_yes (h57.trans (congrArg V.bool hg9)) (gm h8 fun h58 => ?_)
  refine g_yes (h57.trans (congrArg V.bool hg9)) (gm h5 fun h59 => ?_)
  refine g_yes (h57.trans (congrArg V.bool hg9)) (g2 58 59 (jb (r_6.2 != r_4.2)) h58 h59 fun h60 => ?_)
  refine g2 57 60 (jb (r_6.2 != r_4.2)) (h57.trans (congrArg V.bool hg9)) h60 fun h61 => ?_
  refine gq ?_
  exact t_f6_j2 H x_1 r_4 r_6 (r_6.2 != r_4.2) _ ⟨h1, h2, h4, h5, h7, h61⟩ h
def w_FnExactBestForest (F : Nat) (x_1 : (Int × (List (Int × Int)))) : Option Bool :=
  (w_szGraph F x_1 1048576).bind fun r_2 =>
  bif decide (r_2 < 0) then
    some true
  else
    (w_toGraph F x_1).bind fun r_3 =>
    (s_BestForest F r_3).bind fun r_4 =>
    (w_toGraph_o F x_1).bind fun r_5 =>
    (i_BestForest_o F (r_5.1, r_5.2.list)).bind fun r_6 =>
    (w_eqIntS F r_6.1.list r_4.1).bind fun r_24 =>
    bif (!r_24) then
      w_FnExactBestForest_j3 F x_1 r_4 r_5 r_6 true
    else
      w_FnExactBestForest_j3 F x_1 r_4 r_5 r_6 (r_6.2 != r_4.2)
theorem t6 (H : H6 D σ F) (x_1 : (Int × (List (Int × Int)))) (s : Nat → V) (hs : Facts [(0, (.agg [(ji x_1.1), (Enc.enc (x_1.2 : List (Int × Int)))]))] s) (h : w_FnExactBestForest F x_1 = some r) : Run D σ (R6 r) (.run A6 []) s := by
  unfold w_FnExactBestForest at h
  have h0 := hs
  refine .seq (run_reg ?_)
  refine e_clr ?_
  refine ez [(0, _), (1, _)] ⟨(keep_clear (pk := [1]) h0 rfl (map_agg (maps_cons mi (maps_cons me maps_nil)))), (gone_clear (pk := [1]) (t := 1) rfl)⟩ ?_
  rintro s ⟨h0, h1⟩
  refine g_box (.agg [(ji x_1.1), (Enc.enc (x_1.2 : List (Int × Int)))]) (rd_of h0 rfl) h1 rfl ?_
  refine g0 (jb false) fun h2 => ?_
  refine gq (.nsq (.seq (rg (g0 (ji 1048576) fun h3 => gq (.nsq (.seq (rg (g1 1 (.agg [(ji x_1.1), (Enc.enc (x_1.2 : List (Int × Int)))]) (rfl : (_ : V) = (.ref (.bx 1) 0 [] (.agg [(ji x_1.1), (Enc.enc (x_1.2 : List (Int × Int)))]))) fun h14 => ?_))))))))
  refine gm h3 fun h15 => ?_
  obtain ⟨r_2, E_r_2, h⟩ := bind_some h
  refine g_call (m := 0) (al := false) (r := (Enc.enc (r_2 : Int))) [Enc.enc (x_1 : (Int × (List (Int × Int)))), Enc.enc (1048576 : Int)] (ta_cons (v := (.agg [(ji x_1.1), (Enc.enc (x_1.2 : List (Int × Int)))])) h14 rfl (Enc.erase_enc (x_1 : (Int × (List (Int × Int))))) (ta_cons (v := (ji 1048576)) h15 rfl rfl ta_nil)) (H.c15 _ _ _ E_r_2) H.g15 rfl rfl rfl rfl ?_
  refine gm (rfl : (_ : V) = (ji r_2)) fun h3 => ?_
  refine gq (.nsq (.seq (.seq (rg (gm h3 fun h17 => g1 17 (jb (decide (r_2 < 0))) h17 fun h18 => ?_)))))
  refine gq (.nsq (run_cond (t := decide (r_2 < 0)) h18 h (fun h => ?_) (fun h => ?_)))
  · refine .seq (rg (g0 (jb true) fun h2 => ?_))
    refine gq (.nsq (.ret ?_))
    have hr := Option.some.inj h
    subst hr
    exact rrA (res_tmp h2) rfl
  refine .skip (.nsq (.seq (rg (g1 1 (.agg [(ji x_1.1), (Enc.enc (x_1.2 : List (Int × Int)))]) (rfl : (_ : V) = (.ref (.bx 1) 0 [] (.agg [(ji x_1.1), (Enc.enc (x_1.2 : List (Int × Int)))]))) fun h20 => ?_))))
  obtain ⟨r_3, E_r_3, h⟩ := bind_some h
  refine g_call (m := 0) (al := true) (r := (Enc.enc (r_3 : (Int × (List (Int × Int)))))) [Enc.enc (x_1 : (Int × (List (Int × Int))))] (ta_cons (v := (.agg [(ji x_1.1), (Enc.enc (x_1.2 : List (Int × Int)))])) h20 rfl (Enc.erase_enc (x_1 : (Int × (List (Int × Int))))) ta_nil) (H.c17 _ _ E_r_3) H.g17 (hal_of (ht_cons (v := (.agg [(ji x_1.1), (Enc.enc (x_1.2 : List (Int × Int)))])) h20 rfl rfl ht_nil)) rfl rfl rfl ?_
  obtain ⟨r_4, E_r_4, h⟩ := bind_some h
  refine g_call (m := 0) (al := true) (r := (.tup [Enc.enc (r_4.1 : (List Int)), Enc.enc (r_4.2 : Bool)])) [Enc.enc (r_3 : (Int × (List (Int × Int))))] (ta_cons (v := (.agg [(ji r_3.1), (Enc.enc (r_3.2 : List (Int × Int)))])) rfl rfl (Enc.erase_enc (r_3 : (Int × (List (Int × Int))))) ta_nil) (H.c34 _ _ E_r_4) H.g34 (hal_of (ht_cons (v := (.agg [(ji r_3.1), (Enc.enc (r_3.2 : List (Int × Int)))])) rfl rfl rfl ht_nil)) rfl rfl rfl ?_
  refine gm (rfl : (_ : V) = (.tup [(eL r_4.1), (jb r_4.2)])) fun h19 => ?_
  refine g1 19 (eL r_4.1) h19 fun h23 => ?_
  refine g1 19 (jb r_4.2) h19 fun h24 => ?_
  refine gm h23 fun h4 => gm h24 fun h5 => gq (.nsq (.seq (run_reg ?_)))
  refine e_clr ?_
  refine ez [(1, _), (2, _), (4, _), (5, _), (6, _), (26, _)] ⟨(keep_clear (pk := [26, 6]) rfl rfl (map_bx rfl (map_agg (maps_cons mi (maps_cons me maps_nil))))), (keep_clear (pk := [26, 6]) h2 rfl mb), (keep_clear (pk := [26, 6]) h4 rfl me), (keep_clear (pk := [26, 6]) h5 rfl mb), (gone_clear (pk := [26, 6]) (t := 6) rfl), (gone_clear (pk := [26, 6]) (t := 26) rfl)⟩ ?_
  rintro s ⟨h1, h2, h4, h5, h6, h26⟩
  refine g1 1 (.agg [(ji x_1.1), (Enc.enc (x_1.2 : List (Int × Int)))]) h1 fun h25 => ?_
  obtain ⟨r_5, E_r_5, h⟩ := bind_some h
  refine g_callO (m := 1) (al := false) (r := (.agg [(Enc.enc (r_5.1 : Int)), (encO .sh (r_5.2 : NL (Int × Int)))])) (v := (.agg [(ji r_5.1), (encO (.at 26 [1]) (r_5.2 : NL (Int × Int)))])) (kk := 1000000017) [Enc.enc (x_1 : (Int × (List (Int × Int))))] (ta_cons (v := (.agg [(ji x_1.1), (Enc.enc (x_1.2 : List (Int × Int)))])) h25 rfl (Enc.erase_enc (x_1 : (Int × (List (Int × Int))))) ta_nil) (H.c17o _ _ E_r_5) H.g17o rfl (toks_agg (tokss_cons rfl (tokss_cons toks_encS tokss_nil))) (tag_agg (tags_cons rfl (tags_cons tag_encO tags_nil))) rfl h26 ?_
  refine g_alloc h6 ?_
  refine g_store (.agg [(ji r_5.1), (encO (.at 26 [1]) (r_5.2 : NL (Int × Int)))]) (rd_of rfl rfl) (rd_of rfl rfl) ⟨by decide, by decide, rfl, (by simp [V.shape, V.shapes, shape_encP, Sh.beq, Sh.beqs]), (by simp [V.shape, V.shapes, shape_encP, Sh.beq, Sh.beqs]), (by simp [V.toks, V.tokss, tok_memP])⟩ ?_
  refine gz [(1, (.ref (.bx 1) 0 [] (.agg [(ji x_1.1), (Enc.enc (x_1.2 : List (Int × Int)))]))), (2, (jb false)), (4, (eL r_4.1)), (5, (jb r_4.2)), (6, (.ref (.bx 6) 0 [] (.agg [(ji r_5.1), (encO (.at 26 [1]) (r_5.2 : NL (Int × Int)))])))] ⟨(keep_mut h1 (mut_ref_ne rfl rfl (mut_agg (muts_cons rfl (muts_cons (Enc.mut_enc _ _ _ _ (x_1.2 : List (Int × Int))) rfl))))), (keep_mut h2 rfl), (keep_mut h4 (Enc.mut_enc _ _ _ _ (r_4.1 : List Int))), (keep_mut h5 rfl), (keep_mut rfl rfl)⟩ ?_
  rintro s ⟨h1, h2, h4, h5, h6⟩
  refine .nsq (.seq (run_reg ?_))
  refine e_clr ?_
  refine ez [(1, _), (2, _), (4, _), (5, _), (6, _), (29, _)] ⟨(keep_clear (pk := [29]) h1 rfl (map_bx rfl (map_agg (maps_cons mi (maps_cons me maps_nil))))), (keep_clear (pk := [29]) h2 rfl mb), (keep_clear (pk := [29]) h4 rfl me), (keep_clear (pk := [29]) h5 rfl mb), (keep_clear (pk := [29]) h6 rfl (map_bx rfl (map_agg (maps_cons mi (maps_cons (map_encO (r := 26) (p := [1]) rfl rfl) maps_nil))))), (gone_clear (pk := [29]) (t := 29) rfl)⟩ ?_
  rintro s ⟨h1, h2, h4, h5, h6, h29⟩
  refine gv (.agg [(ji r_5.1), (encO (.at 26 [1]) (r_5.2 : NL (Int × Int)))]) (ev_loadN (c := (.agg [(ji r_5.1), (encO (.at 26 [1]) (r_5.2 : NL (Int × Int)))])) h6 (by simp [V.shape, V.shapes, shape_encP, shape_encN, Sh.beq, Sh.beqs])) fun h28 => ?_
  obtain ⟨r_6, E_r_6, h⟩ := bind_some h
  refine g_callO (m := 1) (al := false) (r := (.tup [(encO .sh (r_6.1 : NL Int)), (Enc.enc (r_6.2 : Bool))])) (v := (.tup [(oI 29 [0] r_6.1), (jb r_6.2)])) (kk := 1000000035) [Enc.enc ((r_5.1, r_5.2.list) : (Int × (List (Int × Int))))] (ta_cons (v := (.agg [(ji r_5.1), (encO (.at 26 [1]) (r_5.2 : NL (Int × Int)))])) h28 rfl (erase_agg (erases_cons rfl (erases_cons (erase_encO (o := r_5.2)) erases_nil))) ta_nil) (H.c35o _ _ E_r_6) H.g35o rfl (toks_tup (tokss_cons toks_encS (tokss_cons rfl tokss_nil))) (tag_tup (tags_cons tag_encO (tags_cons rfl tags_nil))) rfl h29 ?_
  refine gm (rfl : (_ : V) = (.tup [(oI 29 [0] r_6.1), (jb r_6.2)])) fun h27 => ?_
  refine gv (oI 29 [0] r_6.1) (ev_extN (v := (oI 29 [0] r_6.1)) h27 rfl ok_encP) fun h30 => ?_
  refine g1 27 (jb r_6.2) h27 fun h31 => ?_
  refine gv (oI 29 [0] r_6.1) (ev_mov h30 ok_encO) fun h7 => ?_
  refine gm h31 fun h8 => g_end ?_
  refine e_home (r := 29) (x := 7) (v := _) h7 ok_encO (fun s_4 hg_4 => ?_)
  refine ez [(1, (.ref (.bx 1) 0 [] (.agg [(ji x_1.1), (Enc.enc (x_1.2 : List (Int × Int)))]))), (2, (jb false)), (4, (eL r_4.1)), (5, (jb r_4.2)), (6, (.ref (.bx 6) 0 [] (.agg [(ji r_5.1), (encO (.at 26 [1]) (r_5.2 : NL (Int × Int)))]))), (7, (oI 7 [0] r_6.1)), (8, (jb r_6.2))] ⟨(hg_4 1 _ _ h1 (map_bx rfl (map_agg (maps_cons mi (maps_cons me maps_nil))))), (hg_4 2 _ _ h2 mb), (hg_4 4 _ _ h4 me), (hg_4 5 _ _ h5 mb), (hg_4 6 _ (.ref (.bx 6) 0 [] (.agg [(ji r_5.1), (encO (.at 26 [1]) (r_5.2 : NL (Int × Int)))])) h6 (map_bx rfl (map_agg (maps_cons mi (maps_cons (map_encO (r := 26) (p := [1]) rfl rfl) maps_nil))))), (hg_4 7 _ _ h7 (map_encO (r := 29) (p := [0]) rfl rfl)), (hg_4 8 _ _ h8 mb)⟩ ?_
  rintro s ⟨h1, h2, h4, h5, h6, h7, h8⟩
  refine .nsq (.seq (.seq (rg (gv (oI 7 [0] r_6.1) (ev_mov h7 ok_encO) fun h32 => ?_))))
  refine gm h4 fun h33 => ?_
  obtain ⟨r_24, E_r_24, h⟩ := bind_some h
  refine g_call (m := 0) (al := false) (r := (Enc.enc (r_24 : Bool))) [Enc.enc (r_6.1.list : (List Int)), Enc.enc (r_4.1 : (List Int))] (ta_cons (v := (oI 7 [0] r_6.1)) h32 ok_encP (erase_encO (o := r_6.1)) (ta_cons (v := (eL r_4.1)) h33 rfl (Enc.erase_enc (r_4.1 : (List Int))) ta_nil)) (H.c21 _ _ _ E_r_24) H.g21 rfl rfl rfl rfl ?_
  refine g1 34 (jb (!r_24)) (rfl : (_ : V) = (jb r_24)) fun h35 => ?_
  refine gm h35 fun h36 => split_on (c := (!r_24)) h (fun hg5 h => ?_) (fun hg5 h => ?_)
  · refine g_no (h36.trans (congrArg V.bool hg5)) ?_
    refine g_no (h36.trans (congrArg V.bool hg5)) ?_
    refine g_no (h36.trans (congrArg V.bool hg5)) ?_
    refine g2 36 39 (jb true) (h36.trans (congrArg V.bool hg5)) (rfl : (_ : V) = (.tup [])) fun h40 => ?_
    refine gq ?_
    exact t_f6_j3 H x_1 r_4 r_5 r_6 true _ ⟨h1, h2, h4, h5, h6, h7, h8, h40⟩ h
  refine g_yes (h36.trans (congrArg V.bool hg5)) (gm h8 fun h37 => ?_)
  refine g_yes (h36.trans (congrArg V.bool hg5)) (gm h5 fun h38 => ?_)
  refine g_yes (h36.trans (congrArg V.bool hg5)) (g2 37 38 (jb (r_6.2 != r_4.2)) h37 h38 fun h39 => ?_)
  refine g2 36 39 (jb (r_6.2 != r_4.2)) (h36.trans (congrArg V.bool hg5)) h39 fun h40 => ?_
  refine gq ?_
  exact t_f6_j3 H x_1 r_4 r_5 r_6 (r_6.2 != r_4.2) _ ⟨h1, h2, h4, h5, h6, h7, h8, h40⟩ h
end
def e6 (F : Nat) : Ent := ent 6 (fun (x : ((Int × (List (Int × Int))) × Unit)) => w_FnExactBestForest F x.1) (fun (r : Bool) => (Enc.enc (r : Bool))) 0 false []
theorem p6 {F : Nat} {x0 : (Int × (List (Int × Int)))} {r : Bool} (h : w_FnExactBestForest F x0 = some r) : (e6 F).den [Enc.enc x0] = some (Enc.enc (r : Bool)) := ent_put (x0, ()) h
theorem o6 {D : Den} {σ : Sig} {F : Nat} (hF : Fits2 Try.prog D σ) (H : H6 D σ F) : (e6 F).Ok Try.prog := by
  refine ok_of (f := 6) (show unk 6 = 6 from rfl) (fun args r h => ?_) ⟨Try.f6, Try.func6, rfl, rfl⟩
  obtain ⟨⟨x0, _⟩, y, rfl, hy, rfl⟩ := da_open h
  exact contract_run hF (by kernel_rfl) Try.func6 rfl c6 (show 1 ≤ Try.f6.ntmps by decide) (t6 H x0 _ rfl hy)
end Go.Zq
