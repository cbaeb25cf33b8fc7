/- Functions of the program as typed functions, and that the machine runs as they say (part 2). No further condition. -/
import Derived.Test.YtdhbhaaiohkpdaaK3
import Derived.Test.YtdhbhaaiohkpdaaProg
import Derived.Test.YtdhbhaaiohkpdaaChecked
import Derived.KernelRfl
import Derived.Test.YtdhbhaaiohkpdaaG1
set_option linter.unusedVariables false
set_option linter.unusedSimpArgs false
/- Functions of the program, as typed functions, and that the machine runs as they say. -/
namespace Go.Zq
open Go.Proofs
/- loop.example/g01109/spec.l5Less -/
def A88_2 : AC := (.cond (.t 15) .skip (.exit 0))
def A88_4 : AC := (.cond (.t 26) (.seq (.reg [] [(jm 27 0), (jm 28 5), ((jv 29 (.idx (.t 27) (.t 28) 1))), ((jv 30 (.load .s (.t 29)))), (jm 31 1), (jm 32 5), ((jv 33 (.idx (.t 31) (.t 32) 1))), ((jv 34 (.load .s (.t 33)))), ((jv 35 (.bin .lss (.t 30) (.t 34)))), (jm 4 35)] []) .ret) .skip)
def A88_5 : AC := (.reg [] [(jm 16 5), ((jv 17 (.bin .add (.t 16) (jn 1)))), (jm 5 17)] [])
def A88_3 : AC := (.seq (.block 1 (.seq (.reg [] [(jm 18 0), (jm 19 5), ((jv 20 (.idx (.t 18) (.t 19) 1))), ((jv 21 (.load .s (.t 20)))), (jm 22 1), (jm 23 5), ((jv 24 (.idx (.t 22) (.t 23) 1))), ((jv 25 (.load .s (.t 24)))), ((jv 26 (.bin .neq (.t 21) (.t 25))))] []) A88_4)) A88_5)
def A88_1 : AC := (.seq (.seq (.reg [] [(jm 6 5), (jm 7 0), ((jv 8 (.len (.t 7)))), ((jv 9 (.bin .lss (.t 6) (.t 8)))), (jm 10 9), ((jg 11 10 true (.mov (.t 5)))), ((jg 12 10 true (.mov (.t 1)))), ((jg 13 10 true (.len (.t 12)))), ((jg 14 10 true (.bin .lss (.t 11) (.t 13)))), ((jv 15 (.pick (.t 10) (.t 14) (.k (.bool false)))))] []) A88_2) A88_3)
def A88_6 : AC := (.seq (.reg [] [(jm 36 0), ((jv 37 (.len (.t 36)))), (jm 38 1), ((jv 39 (.len (.t 38)))), ((jv 40 (.bin .lss (.t 37) (.t 39)))), (jm 4 40)] []) .ret)
def A88_8 : AC := (.block 0 (.loop A88_1))
def A88_7 : AC := (.seq (.seq (.reg [] [((jv 5 (.mov (jn 0))))] []) A88_8) A88_6)
def A88 : AC := (.seq (.reg [] [((jv 4 (.mov (.k (.bool false)))))] []) A88_7)
def an88 : List An := []
theorem c88 : cC Try.prog Try.f88.ntmps an88 (Try.f88.body.getD .skip) = some A88 := by kernel_rfl
structure H88 (D : Den) (σ : Sig) (F : Nat) : Prop where
  mk ::
abbrev R88 (r : Bool) : (Nat → V) → Prop := RR Try.prog [.tmp 4] 0 false (Enc.enc (r : Bool))
section
variable {D : Den} {σ : Sig} {F : Nat} {r : Bool}
def s_l5Less_j1 (F : Nat) (x_1 : (List Int)) (x_2 : (List Int)) (x_10 : Int) (c1 : Int → Option Bool) (x_18 : Bool) : Option Bool :=
  bif x_18 then
    (idx x_1 x_10).bind fun e_19 =>
    (idx x_2 x_10).bind fun e_20 =>
    bif (e_19 != e_20) then
      (idx x_1 x_10).bind fun e_23 =>
      (idx x_2 x_10).bind fun e_24 =>
      some (decide (e_23 < e_24))
    else
      c1 (w64 (x_10 + 1))
  else
    some (decide ((x_1.length : Int) < (x_2.length : Int)))
theorem t_f88_j1 (H : H88 D σ F) (x_1 : (List Int)) (x_2 : (List Int)) (x_10 : Int) (c1 : Int → Option Bool) (Hc1 : ∀ (x_10 : Int) (s : Nat → V), Facts [(0, (eL x_1)), (1, (eL x_2)), (4, (jb false)), (5, (ji x_10))] s → c1 x_10 = some r → Run D σ (R88 r) (.run A88_1 [.lp A88_1, .bk 0, .sq A88_6]) s) (x_18 : Bool) (s : Nat → V) (hs : Facts [(0, (eL x_1)), (1, (eL x_2)), (4, (jb false)), (5, (ji x_10)), (15, (jb x_18))] s) (h : s_l5Less_j1 F x_1 x_2 x_10 c1 x_18 = some r) : Run D σ (R88 r) (.nrm [.sq A88_2, .sq A88_3, .lp A88_1, .bk 0, .sq A88_6]) s := by
  unfold s_l5Less_j1 at h
  obtain ⟨h0, h1, h4, h5, h15⟩ := hs
  refine .nsq (run_cond (t := x_18) h15 h (fun h => ?_) (fun h => ?_))
  · refine .skip (.nsq (.seq (.block (.seq (rg (gm h0 fun h18 => gm h5 fun h19 => ?_))))))
    obtain ⟨e_19, E_e_19, h⟩ := bind_some h
    refine gv (.ref .sh 0 [] (ji e_19)) (ev_idx (t := .sh) (lo := 0) (xs := x_1) h18 h19 E_e_19 rfl rfl) fun h20 => ?_
    refine g1 20 (ji e_19) h20 fun h21 => ?_
    refine gm h1 fun h22 => gm h5 fun h23 => ?_
    obtain ⟨e_20, E_e_20, h⟩ := bind_some h
    refine gv (.ref .sh 0 [] (ji e_20)) (ev_idx (t := .sh) (lo := 0) (xs := x_2) h22 h23 E_e_20 rfl rfl) fun h24 => ?_
    refine g1 24 (ji e_20) h24 fun h25 => ?_
    refine g2 21 25 (jb (e_19 != e_20)) h21 h25 fun h26 => ?_
    refine gq (.nsq (run_cond (t := (e_19 != e_20)) h26 h (fun h => ?_) (fun h => ?_)))
    · refine .seq (rg (gm h0 fun h27 => gm h5 fun h28 => ?_))
      obtain ⟨e_23, E_e_23, h⟩ := bind_some h
      refine gv (.ref .sh 0 [] (ji e_23)) (ev_idx (t := .sh) (lo := 0) (xs := x_1) h27 h28 E_e_23 rfl rfl) fun h29 => ?_
      refine g1 29 (ji e_23) h29 fun h30 => ?_
      refine gm h1 fun h31 => gm h5 fun h32 => ?_
      obtain ⟨e_24, E_e_24, h⟩ := bind_some h
      refine gv (.ref .sh 0 [] (ji e_24)) (ev_idx (t := .sh) (lo := 0) (xs := x_2) h31 h32 E_e_24 rfl rfl) fun h33 => ?_
      refine g1 33 (ji e_24) h33 fun h34 => ?_
      refine g2 30 34 (jb (decide (e_23 < e_24))) h30 h34 fun h35 => ?_
      refine gm h35 fun h4 => gq (.nsq (.ret ?_))
      have hr := Option.some.inj h
      subst hr
      exact rrA (res_tmp h4) rfl
    refine .skip (.nbk (.nsq (rg (gm h5 fun h16 => g1 16 (ji (w64 (x_10 + 1))) h16 fun h17 => ?_))))
    refine gm h17 fun h5 => gq (.nlp ?_)
    exact Hc1 (w64 (x_10 + 1)) _ ⟨h0, h1, h4, h5⟩ h
  refine .exit (.esq (.elp (.ebk (.nsq (.seq (rg (gm h0 fun h36 => gv (ji (x_1.length : Int)) (ev_len (xs := x_1) h36) fun h37 => ?_)))))))
  refine gm h1 fun h38 => gv (ji (x_2.length : Int)) (ev_len (xs := x_2) h38) fun h39 => ?_
  refine g2 37 39 (jb (decide ((x_1.length : Int) < (x_2.length : Int)))) h37 h39 fun h40 => ?_
  refine gm h40 fun h4 => gq (.nsq (.ret ?_))
  have hr := Option.some.inj h
  subst hr
  exact rrA (res_tmp h4) rfl
def s_l5Less_l1 (F : Nat) (x_1 : (List Int)) (x_2 : (List Int))  : Nat → Int → Option Bool
  | 0, _ => none
  | k + 1, x_10 =>
    bif decide (x_10 < (x_1.length : Int)) then
      s_l5Less_j1 F x_1 x_2 x_10 (s_l5Less_l1 F x_1 x_2 k) (decide (x_10 < (x_2.length : Int)))
    else
      s_l5Less_j1 F x_1 x_2 x_10 (s_l5Less_l1 F x_1 x_2 k) false
theorem t_f88_l1 (H : H88 D σ F) (x_1 : (List Int)) (x_2 : (List Int))  : ∀ (k : Nat) (x_10 : Int) (s : Nat → V), Facts [(0, (eL x_1)), (1, (eL x_2)), (4, (jb false)), (5, (ji x_10))] s → s_l5Less_l1 F x_1 x_2 k x_10 = some r → Run D σ (R88 r) (.run A88_1 [.lp A88_1, .bk 0, .sq A88_6]) s := by
  intro k
  induction k with
  | zero => intro x_10 s _ h; exact nomatch (h : (none : Option _) = some r)
  | succ k ih =>
    intro x_10 s hs h
    rw [s_l5Less_l1] at h
    obtain ⟨h0, h1, h4, h5⟩ := hs
    refine .seq (.seq (rg (gm h5 fun h6 => gm h0 fun h7 => gv (ji (x_1.length : Int)) (ev_len (xs := x_1) h7) fun h8 => ?_)))
    refine g2 6 8 (jb (decide (x_10 < (x_1.length : Int)))) h6 h8 fun h9 => ?_
    refine gm h9 fun h10 => split_on (c := decide (x_10 < (x_1.length : Int))) h (fun hg5 h => ?_) (fun hg5 h => ?_)
    · refine g_yes (h10.trans (congrArg V.bool hg5)) (gm h5 fun h11 => ?_)
      refine g_yes (h10.trans (congrArg V.bool hg5)) (gm h1 fun h12 => ?_)
      refine g_yes (h10.trans (congrArg V.bool hg5)) (gv (ji (x_2.length : Int)) (ev_len (xs := x_2) h12) fun h13 => ?_)
      refine g_yes (h10.trans (congrArg V.bool hg5)) (g2 11 13 (jb (decide (x_10 < (x_2.length : Int)))) h11 h13 fun h14 => ?_)
      refine g2 10 14 (jb (decide (x_10 < (x_2.length : Int)))) (h10.trans (congrArg V.bool hg5)) h14 fun h15 => ?_
      refine gq ?_
      exact t_f88_j1 H x_1 x_2 x_10 (s_l5Less_l1 F x_1 x_2 k) ih (decide (x_10 < (x_2.length : Int))) _ ⟨h0, h1, h4, h5, h15⟩ h
    refine g_no (h10.trans (congrArg V.bool hg5)) ?_
    refine g_no (h10.trans (congrArg V.bool hg5)) ?_
    refine g_no (h10.trans (congrArg V.bool hg5)) ?_
    refine g_no (h10.trans (congrArg V.bool hg5)) ?_
    refine g2 10 14 (jb false) (h10.trans (congrArg V.bool hg5)) (rfl : (_ : V) = (.tup [])) fun h15 => ?_
    refine gq ?_
    exact t_f88_j1 H x_1 x_2 x_10 (s_l5Less_l1 F x_1 x_2 k) ih false _ ⟨h0, h1, h4, h5, h15⟩ h
def s_l5Less (F : Nat) (x_1 : (List Int)) (x_2 : (List Int)) : Option Bool :=
  s_l5Less_l1 F x_1 x_2 F 0
theorem t88 (H : H88 D σ F) (x_1 : (List Int)) (x_2 : (List Int)) (s : Nat → V) (hs : Facts [(0, (eL x_1)), (1, (eL x_2))] s) (h : s_l5Less F x_1 x_2 = some r) : Run D σ (R88 r) (.run A88 []) s := by
  unfold s_l5Less at h
  obtain ⟨h0, h1⟩ := hs
  refine .seq (rg (g0 (jb false) fun h4 => ?_))
  refine gq (.nsq (.seq (.seq (rg (g0 (ji 0) fun h5 => gq (.nsq (.block (.loop ?_))))))))
  exact t_f88_l1 H x_1 x_2 F 0 _ ⟨h0, h1, h4, h5⟩ h
end
def e88 (F : Nat) : Ent := ent 88 (fun (x : ((List Int) × (List Int) × Unit)) => s_l5Less F x.1 x.2.1) (fun (r : Bool) => (Enc.enc (r : Bool))) 0 false []
theorem p88 {F : Nat} {x0 : (List Int)} {x1 : (List Int)} {r : Bool} (h : s_l5Less F x0 x1 = some r) : (e88 F).den [Enc.enc x0, Enc.enc x1] = some (Enc.enc (r : Bool)) := ent_put (x0, x1, ()) h
theorem o88 {D : Den} {σ : Sig} {F : Nat} (hF : Fits2 Try.prog D σ) (H : H88 D σ F) : (e88 F).Ok Try.prog := by
  refine ok_of (f := 88) (show unk 88 = 88 from rfl) (fun args r h => ?_) ⟨Try.f88, Try.func88, rfl, rfl⟩
  obtain ⟨⟨x0, x1, _⟩, y, rfl, hy, rfl⟩ := da_open h
  exact contract_run hF (by kernel_rfl) Try.func88 rfl c88 (show 2 ≤ Try.f88.ntmps by decide) (t88 H x0 x1 _ ⟨rfl, rfl⟩ hy)
/- loop.example/g01109/spec.BrambleCover -/
def A39_2 : AC := (.cond (.t 25) .skip (.exit 0))
def A39_5 : AC := (.cond (.t 53) (.reg [] [(jm 54 8), (jm 6 54)] []) .skip)
def A39_4 : AC := (.seq (.reg [] [(jm 32 8), ((jv 33 (.len (.t 32)))), (jm 34 6), ((jv 35 (.len (.t 34)))), ((jv 36 (.bin .lss (.t 33) (.t 35)))), (jm 37 36), ((jg 38 37 false (.mov (.t 8)))), ((jg 39 37 false (.len (.t 38)))), ((jg 40 37 false (.mov (.t 6)))), ((jg 41 37 false (.len (.t 40)))), ((jg 42 37 false (.bin .eql (.t 39) (.t 41)))), ((jg 43 37 false (.mov (.t 42)))), ((jg 44 43 true (.mov (.t 8)))), ((jg 45 43 true (.mov (.t 6)))), (.mk (some 46) (some (43, true)) false (.call (.k (.fn 88 [] [])) [(.t 44), (.t 45)])), ((jg 47 37 false (.pick (.t 43) (.t 46) (.k (.bool false))))), ((jv 48 (.pick (.t 37) (.k (.bool true)) (.t 47)))), (jm 49 48), ((jg 50 49 true (.mov (.t 8)))), ((jg 51 49 true (.mov (.t 1)))), (.mk (some 52) (some (49, true)) false (.call (.k (.fn 89 [] [])) [(.t 50), (.t 51)])), ((jv 53 (.pick (.t 49) (.t 52) (.k (.bool false)))))] []) A39_5)
def A39_6 : AC := (.reg [] [(jm 26 7), ((jv 27 (.bin .add (.t 26) (jn 1)))), (jm 7 27)] [])
def A39_3 : AC := (.seq (.block 1 (.seq (.reg [] [((jv 28 (.fld (.t 2) 0 0))), ((jv 29 (.load .s (.t 28)))), (jm 30 7), (.mk (some 31) none false (.call (.k (.fn 87 [] [])) [(.t 29), (.t 30)])), (jm 8 31)] []) A39_4)) A39_6)
def A39_1 : AC := (.seq (.seq (.reg [] [(jm 21 7), ((jv 22 (.fld (.t 2) 0 0))), ((jv 23 (.load .s (.t 22)))), ((jv 24 (.bin .shl (jn 1) (.t 23)))), ((jv 25 (.bin .lss (.t 21) (.t 24))))] []) A39_2) A39_3)
def A39_7 : AC := (.seq (.reg [] [(jm 55 6), (jm 4 55), ((jv 5 (.mov (.k (.bool true)))))] []) .ret)
def A39_8 : AC := (.cond (.t 17) (.seq (.reg [.clr [18]] [(.mk (some 18) none false (.lit (.int .i64 (.ofNat 0)) 0 [])), (jm 4 18), ((jv 5 (.mov (.k (.bool false)))))] [.home 18 4]) .ret) .skip)
def A39_11 : AC := (.block 0 (.loop A39_1))
def A39_10 : AC := (.seq (.seq (.reg [] [((jv 7 (.mov (jn 0))))] []) A39_11) A39_7)
def A39_9 : AC := (.seq (.reg [] [((jv 19 (.load (.ag [.s, .p]) (.t 2)))), (.mk (some 20) none false (.call (.k (.fn 86 [] [])) [(.t 19)])), (jm 6 20)] []) A39_10)
def A39_12 : AC := (.seq (.seq (.reg [] [((jv 9 (.load (.ag [.s, .p]) (.t 2)))), (.mk (some 10) none false (.call (.k (.fn 72 [] [])) [(.t 9)])), ((jv 11 (.un .not (.t 10)))), (jm 12 11), ((jg 13 12 false (.load (.ag [.s, .p]) (.t 2)))), ((jg 14 12 false (.mov (.t 1)))), (.mk (some 15) (some (12, false)) false (.call (.k (.fn 85 [] [])) [(.t 13), (.t 14)])), ((jg 16 12 false (.un .not (.t 15)))), ((jv 17 (.pick (.t 12) (.k (.bool true)) (.t 16))))] []) A39_8) A39_9)
def A39 : AC := (.seq (.reg [.clr [2]] [(.mk (some 2) none false (.box (.t 0))), ((jv 4 (.mov (.k (.sl .nl .s 0 []))))), ((jv 5 (.mov (.k (.bool false)))))] []) A39_12)
def an39 : List An := [{ id := 0, pre := [.clr [2]], ep := [], lin := [], sp := [] }, { id := 2, pre := [.clr [18]], ep := [.home 18 4], lin := [], sp := [] }]
theorem c39 : cC Try.prog Try.f39.ntmps an39 (Try.f39.body.getD .skip) = some A39 := by kernel_rfl
structure H39 (D : Den) (σ : Sig) (F : Nat) : Prop where
  c72 : ∀ (x0 : (Int × (List (Int × Int)))) r, s_l2Good F x0 = some r → D 72 [Enc.enc x0] = some (Enc.enc (r : Bool))
  g72 : σ 72 = some (0, false)
  c85 : ∀ (x0 : (Int × (List (Int × Int)))) (x1 : (List (List Int))) r, s_l5Bramble F x0 x1 = some r → D 85 [Enc.enc x0, Enc.enc x1] = some (Enc.enc (r : Bool))
  g85 : σ 85 = some (0, false)
  c86 : ∀ (x0 : (Int × (List (Int × Int)))) r, s_l2All F x0 = some r → D 86 [Enc.enc x0] = some (Enc.enc (r : (List Int)))
  g86 : σ 86 = some (0, true)
  c87 : ∀ (x0 : Int) (x1 : Int) r, s_l2Bits F x0 x1 = some r → D 87 [Enc.enc x0, Enc.enc x1] = some (Enc.enc (r : (List Int)))
  g87 : σ 87 = some (0, false)
  c89 : ∀ (x0 : (List Int)) (x1 : (List (List Int))) r, s_l5Meets F x0 x1 = some r → D 89 [Enc.enc x0, Enc.enc x1] = some (Enc.enc (r : Bool))
  g89 : σ 89 = some (0, false)
  c88 : ∀ (x0 : (List Int)) (x1 : (List Int)) r, s_l5Less F x0 x1 = some r → D 88 [Enc.enc x0, Enc.enc x1] = some (Enc.enc (r : Bool))
  g88 : σ 88 = some (0, false)
abbrev R39 (r : ((List Int) × Bool)) : (Nat → V) → Prop := RR Try.prog [.tmp 4, .tmp 5] 0 true (.tup [Enc.enc (r.1 : (List Int)), Enc.enc (r.2 : Bool)])
section
variable {D : Den} {σ : Sig} {F : Nat} {r : ((List Int) × Bool)}
def s_BrambleCover_j1 (F : Nat) (x_2 : (List (List Int))) (x_1 : (Int × (List (Int × Int)))) (x_18 : Int) (c1 : (List Int) → Int → Option ((List Int) × Bool)) (x_35 : (List Int)) : Option ((List Int) × Bool) :=
  c1 x_35 (w64 (x_18 + 1))
theorem t_f39_j1 (H : H39 D σ F) (x_2 : (List (List Int))) (x_1 : (Int × (List (Int × Int)))) (x_18 : Int) (c1 : (List Int) → Int → Option ((List Int) × Bool)) (Hc1 : ∀ (x_17 : (List Int)) (x_18 : Int) (s : Nat → V), Facts [(1, (Enc.enc (x_2 : List (List Int)))), (2, (.ref (.bx 2) 0 [] (.agg [(ji x_1.1), (Enc.enc (x_1.2 : List (Int × Int)))]))), (4, (.sl .nl (Enc.shp Int) 0 [])), (5, (jb false)), (6, (eL x_17)), (7, (ji x_18))] s → c1 x_17 x_18 = some r → Run D σ (R39 r) (.run A39_1 [.lp A39_1, .bk 0, .sq A39_7]) s) (x_35 : (List Int)) (s : Nat → V) (hs : Facts [(1, (Enc.enc (x_2 : List (List Int)))), (2, (.ref (.bx 2) 0 [] (.agg [(ji x_1.1), (Enc.enc (x_1.2 : List (Int × Int)))]))), (4, (.sl .nl (Enc.shp Int) 0 [])), (5, (jb false)), (6, (eL x_35)), (7, (ji x_18))] s) (h : s_BrambleCover_j1 F x_2 x_1 x_18 c1 x_35 = some r) : Run D σ (R39 r) (.nrm [.bk 1, .sq A39_6, .lp A39_1, .bk 0, .sq A39_7]) s := by
  unfold s_BrambleCover_j1 at h
  obtain ⟨h1, h2, h4, h5, h6, h7⟩ := hs
  refine .nbk (.nsq (rg (gm h7 fun h26 => g1 26 (ji (w64 (x_18 + 1))) h26 fun h27 => ?_)))
  refine gm h27 fun h7 => gq (.nlp ?_)
  exact Hc1 x_35 (w64 (x_18 + 1)) _ ⟨h1, h2, h4, h5, h6, h7⟩ h
def s_BrambleCover_j2 (F : Nat) (x_2 : (List (List Int))) (x_1 : (Int × (List (Int × Int)))) (x_17 : (List Int)) (x_18 : Int) (r_30 : (List Int)) (c1 : (List Int) → Int → Option ((List Int) × Bool)) (x_34 : Bool) : Option ((List Int) × Bool) :=
  bif x_34 then
    s_BrambleCover_j1 F x_2 x_1 x_18 c1 r_30
  else
    s_BrambleCover_j1 F x_2 x_1 x_18 c1 x_17
theorem t_f39_j2 (H : H39 D σ F) (x_2 : (List (List Int))) (x_1 : (Int × (List (Int × Int)))) (x_17 : (List Int)) (x_18 : Int) (r_30 : (List Int)) (c1 : (List Int) → Int → Option ((List Int) × Bool)) (Hc1 : ∀ (x_17 : (List Int)) (x_18 : Int) (s : Nat → V), Facts [(1, (Enc.enc (x_2 : List (List Int)))), (2, (.ref (.bx 2) 0 [] (.agg [(ji x_1.1), (Enc.enc (x_1.2 : List (Int × Int)))]))), (4, (.sl .nl (Enc.shp Int) 0 [])), (5, (jb false)), (6, (eL x_17)), (7, (ji x_18))] s → c1 x_17 x_18 = some r → Run D σ (R39 r) (.run A39_1 [.lp A39_1, .bk 0, .sq A39_7]) s) (x_34 : Bool) (s : Nat → V) (hs : Facts [(1, (Enc.enc (x_2 : List (List Int)))), (2, (.ref (.bx 2) 0 [] (.agg [(ji x_1.1), (Enc.enc (x_1.2 : List (Int × Int)))]))), (4, (.sl .nl (Enc.shp Int) 0 [])), (5, (jb false)), (6, (eL x_17)), (7, (ji x_18)), (8, (eL r_30)), (53, (jb x_34))] s) (h : s_BrambleCover_j2 F x_2 x_1 x_17 x_18 r_30 c1 x_34 = some r) : Run D σ (R39 r) (.nrm [.sq A39_5, .bk 1, .sq A39_6, .lp A39_1, .bk 0, .sq A39_7]) s := by
  unfold s_BrambleCover_j2 at h
  obtain ⟨h1, h2, h4, h5, h6, h7, h8, h53⟩ := hs
  refine .nsq (run_cond (t := x_34) h53 h (fun h => ?_) (fun h => ?_))
  · refine rg (gm h8 fun h54 => gm h54 fun h6 => gq ?_)
    exact t_f39_j1 H x_2 x_1 x_18 c1 Hc1 r_30 _ ⟨h1, h2, h4, h5, h6, h7⟩ h
  refine .skip ?_
  exact t_f39_j1 H x_2 x_1 x_18 c1 Hc1 x_17 _ ⟨h1, h2, h4, h5, h6, h7⟩ h
def s_BrambleCover_l1 (F : Nat) (x_2 : (List (List Int))) (x_1 : (Int × (List (Int × Int))))  : Nat → (List Int) → Int → Option ((List Int) × Bool)
  | 0, _, _ => none
  | k + 1, x_17, x_18 =>
    (shlI .i64 1 x_1.1).bind fun q_29 =>
    bif decide (x_18 < q_29) then
      (s_l2Bits F x_1.1 x_18).bind fun r_30 =>
      bif decide ((r_30.length : Int) < (x_17.length : Int)) then
        (s_l5Meets F r_30 x_2).bind fun r_36 =>
        s_BrambleCover_j2 F x_2 x_1 x_17 x_18 r_30 (s_BrambleCover_l1 F x_2 x_1 k) r_36
      else
        bif ((r_30.length : Int) == (x_17.length : Int)) then
          (s_l5Less F r_30 x_17).bind fun r_37 =>
          bif r_37 then
            (s_l5Meets F r_30 x_2).bind fun r_38 =>
            s_BrambleCover_j2 F x_2 x_1 x_17 x_18 r_30 (s_BrambleCover_l1 F x_2 x_1 k) r_38
          else
            s_BrambleCover_j2 F x_2 x_1 x_17 x_18 r_30 (s_BrambleCover_l1 F x_2 x_1 k) false
        else
          s_BrambleCover_j2 F x_2 x_1 x_17 x_18 r_30 (s_BrambleCover_l1 F x_2 x_1 k) false
    else
      some (x_17, true)
theorem t_f39_l1 (H : H39 D σ F) (x_2 : (List (List Int))) (x_1 : (Int × (List (Int × Int))))  : ∀ (k : Nat) (x_17 : (List Int)) (x_18 : Int) (s : Nat → V), Facts [(1, (Enc.enc (x_2 : List (List Int)))), (2, (.ref (.bx 2) 0 [] (.agg [(ji x_1.1), (Enc.enc (x_1.2 : List (Int × Int)))]))), (4, (.sl .nl (Enc.shp Int) 0 [])), (5, (jb false)), (6, (eL x_17)), (7, (ji x_18))] s → s_BrambleCover_l1 F x_2 x_1 k x_17 x_18 = some r → Run D σ (R39 r) (.run A39_1 [.lp A39_1, .bk 0, .sq A39_7]) s := by
  intro k
  induction k with
  | zero => intro x_17 x_18 s _ h; exact nomatch (h : (none : Option _) = some r)
  | succ k ih =>
    intro x_17 x_18 s hs h
    rw [s_BrambleCover_l1] at h
    obtain ⟨h1, h2, h4, h5, h6, h7⟩ := hs
    refine .seq (.seq (rg (gm h7 fun h21 => g1 2 (.ref (.bx 2) 0 [0] (ji x_1.1)) h2 fun h22 => ?_)))
    refine g1 22 (ji x_1.1) h22 fun h23 => ?_
    obtain ⟨q_29, E_q_29, h⟩ := bind_some h
    refine gv (ji q_29) (ev_shl rfl h23 E_q_29) fun h24 => ?_
    refine g2 21 24 (jb (decide (x_18 < q_29))) h21 h24 fun h25 => ?_
    refine gq (.nsq (run_cond (t := decide (x_18 < q_29)) h25 h (fun h => ?_) (fun h => ?_)))
    · refine .skip (.nsq (.seq (.block (.seq (rg (g1 2 (.ref (.bx 2) 0 [0] (ji x_1.1)) h2 fun h28 => ?_))))))
      refine g1 28 (ji x_1.1) h28 fun h29 => ?_
      refine gm h7 fun h30 => ?_
      obtain ⟨r_30, E_r_30, h⟩ := bind_some h
      refine g_call (m := 0) (al := false) (r := (Enc.enc (r_30 : (List Int)))) [Enc.enc (x_1.1 : Int), Enc.enc (x_18 : Int)] (ta_cons (v := (ji x_1.1)) h29 rfl rfl (ta_cons (v := (ji x_18)) h30 rfl rfl ta_nil)) (H.c87 _ _ _ E_r_30) H.g87 rfl rfl rfl rfl ?_
      refine gm (rfl : (_ : V) = (eL r_30)) fun h8 => ?_
      refine gq (.nsq (.seq (rg (gm h8 fun h32 => gv (ji (r_30.length : Int)) (ev_len (xs := r_30) h32) fun h33 => ?_))))
      refine gm h6 fun h34 => gv (ji (x_17.length : Int)) (ev_len (xs := x_17) h34) fun h35 => ?_
      refine g2 33 35 (jb (decide ((r_30.length : Int) < (x_17.length : Int)))) h33 h35 fun h36 => ?_
      refine gm h36 fun h37 => split_on (c := decide ((r_30.length : Int) < (x_17.length : Int))) h (fun hg6 h => ?_) (fun hg6 h => ?_)
      · refine g_no (h37.trans (congrArg V.bool hg6)) ?_
        refine g_no (h37.trans (congrArg V.bool hg6)) ?_
        refine g_no (h37.trans (congrArg V.bool hg6)) ?_
        refine g_no (h37.trans (congrArg V.bool hg6)) ?_
        refine g_no (h37.trans (congrArg V.bool hg6)) ?_
        refine g_no (h37.trans (congrArg V.bool hg6)) ?_
        refine g_skip rfl ?_
        refine g_skip rfl ?_
        refine g_skip rfl ?_
        refine g_no (h37.trans (congrArg V.bool hg6)) ?_
        refine g2 37 47 (jb true) (h37.trans (congrArg V.bool hg6)) (rfl : (_ : V) = (.tup [])) fun h48 => ?_
        refine gm h48 fun h49 => g_yes h49 (gm h8 fun h50 => ?_)
        refine g_yes h49 (gm h1 fun h51 => ?_)
        obtain ⟨r_36, E_r_36, h⟩ := bind_some h
        refine g_yes h49 (g_call (m := 0) (al := false) (r := (Enc.enc (r_36 : Bool))) [Enc.enc (r_30 : (List Int)), Enc.enc (x_2 : (List (List Int)))] (ta_cons (v := (eL r_30)) h50 rfl (Enc.erase_enc (r_30 : (List Int))) (ta_cons (v := (Enc.enc (x_2 : List (List Int)))) h51 rfl (Enc.erase_enc (x_2 : (List (List Int)))) ta_nil)) (H.c89 _ _ _ E_r_36) H.g89 rfl rfl rfl rfl ?_)
        refine g2 49 52 (jb r_36) h49 (rfl : (_ : V) = (jb r_36)) fun h53 => ?_
        refine gz [(1, _), (2, _), (4, _), (5, _), (6, _), (7, _), (8, _), (53, _)] ⟨h1, h2, h4, h5, h6, h7, h8, h53⟩ ?_
        rintro s ⟨h1, h2, h4, h5, h6, h7, h8, h53⟩
        exact t_f39_j2 H x_2 x_1 x_17 x_18 r_30 (s_BrambleCover_l1 F x_2 x_1 k) ih r_36 _ ⟨h1, h2, h4, h5, h6, h7, h8, h53⟩ h
      refine g_yes (h37.trans (congrArg V.bool hg6)) (gm h8 fun h38 => ?_)
      refine g_yes (h37.trans (congrArg V.bool hg6)) (gv (ji (r_30.length : Int)) (ev_len (xs := r_30) h38) fun h39 => ?_)
      refine g_yes (h37.trans (congrArg V.bool hg6)) (gm h6 fun h40 => ?_)
      refine g_yes (h37.trans (congrArg V.bool hg6)) (gv (ji (x_17.length : Int)) (ev_len (xs := x_17) h40) fun h41 => ?_)
      refine g_yes (h37.trans (congrArg V.bool hg6)) (g2 39 41 (jb ((r_30.length : Int) == (x_17.length : Int))) h39 h41 fun h42 => ?_)
      refine g_yes (h37.trans (congrArg V.bool hg6)) (gm h42 fun h43 => ?_)
      refine split_on (c := ((r_30.length : Int) == (x_17.length : Int))) h (fun hg12 h => ?_) (fun hg12 h => ?_)
      · refine g_yes (h43.trans (congrArg V.bool hg12)) (gm h8 fun h44 => ?_)
        refine g_yes (h43.trans (congrArg V.bool hg12)) (gm h6 fun h45 => ?_)
        obtain ⟨r_37, E_r_37, h⟩ := bind_some h
        refine g_yes (h43.trans (congrArg V.bool hg12)) (g_call (m := 0) (al := false) (r := (Enc.enc (r_37 : Bool))) [Enc.enc (r_30 : (List Int)), Enc.enc (x_17 : (List Int))] (ta_cons (v := (eL r_30)) h44 rfl (Enc.erase_enc (r_30 : (List Int))) (ta_cons (v := (eL x_17)) h45 rfl (Enc.erase_enc (x_17 : (List Int))) ta_nil)) (H.c88 _ _ _ E_r_37) H.g88 rfl rfl rfl rfl ?_)
        refine g_yes (h37.trans (congrArg V.bool hg6)) (g2 43 46 (jb r_37) (h43.trans (congrArg V.bool hg12)) (rfl : (_ : V) = (jb r_37)) fun h47 => ?_)
        refine g2 37 47 (jb r_37) (h37.trans (congrArg V.bool hg6)) h47 fun h48 => ?_
        refine gm h48 fun h49 => split_on (c := r_37) h (fun hg18 h => ?_) (fun hg18 h => ?_)
        · refine g_yes (h49.trans (congrArg V.bool hg18)) (gm h8 fun h50 => ?_)
          refine g_yes (h49.trans (congrArg V.bool hg18)) (gm h1 fun h51 => ?_)
          obtain ⟨r_38, E_r_38, h⟩ := bind_some h
          refine g_yes (h49.trans (congrArg V.bool hg18)) (g_call (m := 0) (al := false) (r := (Enc.enc (r_38 : Bool))) [Enc.enc (r_30 : (List Int)), Enc.enc (x_2 : (List (List Int)))] (ta_cons (v := (eL r_30)) h50 rfl (Enc.erase_enc (r_30 : (List Int))) (ta_cons (v := (Enc.enc (x_2 : List (List Int)))) h51 rfl (Enc.erase_enc (x_2 : (List (List Int)))) ta_nil)) (H.c89 _ _ _ E_r_38) H.g89 rfl rfl rfl rfl ?_)
          refine g2 49 52 (jb r_38) (h49.trans (congrArg V.bool hg18)) (rfl : (_ : V) = (jb r_38)) fun h53 => ?_
          refine gz [(1, _), (2, _), (4, _), (5, _), (6, _), (7, _), (8, _), (53, _)] ⟨h1, h2, h4, h5, h6, h7, h8, h53⟩ ?_
          rintro s ⟨h1, h2, h4, h5, h6, h7, h8, h53⟩
          exact t_f39_j2 H x_2 x_1 x_17 x_18 r_30 (s_BrambleCover_l1 F x_2 x_1 k) ih r_38 _ ⟨h1, h2, h4, h5, h6, h7, h8, h53⟩ h
        refine g_no (h49.trans (congrArg V.bool hg18)) ?_
        refine g_no (h49.trans (congrArg V.bool hg18)) ?_
        refine g_no (h49.trans (congrArg V.bool hg18)) ?_
        refine g2 49 52 (jb false) (h49.trans (congrArg V.bool hg18)) (rfl : (_ : V) = (.tup [])) fun h53 => ?_
        refine gz [(1, _), (2, _), (4, _), (5, _), (6, _), (7, _), (8, _), (53, _)] ⟨h1, h2, h4, h5, h6, h7, h8, h53⟩ ?_
        rintro s ⟨h1, h2, h4, h5, h6, h7, h8, h53⟩
        exact t_f39_j2 H x_2 x_1 x_17 x_18 r_30 (s_BrambleCover_l1 F x_2 x_1 k) ih false _ ⟨h1, h2, h4, h5, h6, h7, h8, h53⟩ h
      refine g_no (h43.trans (congrArg V.bool hg12)) ?_
      refine g_no (h43.trans (congrArg V.bool hg12)) ?_
      refine g_no (h43.trans (congrArg V.bool hg12)) ?_
      refine g_yes (h37.trans (congrArg V.bool hg6)) (g2 43 46 (jb false) (h43.trans (congrArg V.bool hg12)) (rfl : (_ : V) = (.tup [])) fun h47 => ?_)
      refine g2 37 47 (jb false) (h37.trans (congrArg V.bool hg6)) h47 fun h48 => ?_
      refine gm h48 fun h49 => g_no h49 ?_
      refine g_no h49 ?_
      refine g_no h49 ?_
      refine g2 49 52 (jb false) h49 (rfl : (_ : V) = (.tup [])) fun h53 => ?_
      refine gz [(1, _), (2, _), (4, _), (5, _), (6, _), (7, _), (8, _), (53, _)] ⟨h1, h2, h4, h5, h6, h7, h8, h53⟩ ?_
      rintro s ⟨h1, h2, h4, h5, h6, h7, h8, h53⟩
      exact t_f39_j2 H x_2 x_1 x_17 x_18 r_30 (s_BrambleCover_l1 F x_2 x_1 k) ih false _ ⟨h1, h2, h4, h5, h6, h7, h8, h53⟩ h
    refine .exit (.esq (.elp (.ebk (.nsq (.seq (rg (gm h6 fun h55 => gm h55 fun h4 => g0 (jb true) fun h5 => ?_)))))))
    refine gq (.nsq (.ret ?_))
    have hr := Option.some.inj h
    subst hr
    exact rrB (res_tmp h4) (res_tmp h5) (fin_ret1 (fin_tup (fins_cons (fin_enc (x := (x_17 : (List Int)))) (fins_cons (fin_enc (x := (true : Bool))) fins_nil))))
def s_BrambleCover_j3 (F : Nat) (x_2 : (List (List Int))) (x_1 : (Int × (List (Int × Int))))  (x_5 : Bool) : Option ((List Int) × Bool) :=
  bif x_5 then
    some ([], false)
  else
    (s_l2All F x_1).bind fun r_6 =>
    s_BrambleCover_l1 F x_2 x_1 F r_6 0
theorem t_f39_j3 (H : H39 D σ F) (x_2 : (List (List Int))) (x_1 : (Int × (List (Int × Int))))  (x_5 : Bool) (s : Nat → V) (hs : Facts [(1, (Enc.enc (x_2 : List (List Int)))), (2, (.ref (.bx 2) 0 [] (.agg [(ji x_1.1), (Enc.enc (x_1.2 : List (Int × Int)))]))), (4, (.sl .nl (Enc.shp Int) 0 [])), (5, (jb false)), (17, (jb x_5))] s) (h : s_BrambleCover_j3 F x_2 x_1  x_5 = some r) : Run D σ (R39 r) (.nrm [.sq A39_8, .sq A39_9]) s := by
  unfold s_BrambleCover_j3 at h
  obtain ⟨h1, h2, h4, h5, h17⟩ := hs
  refine .nsq (run_cond (t := x_5) h17 h (fun h => ?_) (fun h => ?_))
  · refine .seq (run_reg ?_)
    refine e_clr ?_
    refine ez [(1, _), (2, _), (4, _), (5, _), (18, _)] ⟨(keep_clear (pk := [18]) h1 rfl me), (keep_clear (pk := [18]) h2 rfl (map_bx rfl (map_agg (maps_cons mi (maps_cons me maps_nil))))), (keep_clear (pk := [18]) h4 rfl rfl), (keep_clear (pk := [18]) h5 rfl mb), (gone_clear (pk := [18]) (t := 18) rfl)⟩ ?_
    rintro s ⟨h1, h2, h4, h5, h18⟩
    refine g_litL [] [] trivial rfl rfl h18 ?_
    refine gm (rfl : (_ : V) = (oI 18 [] (.of []))) fun h4 => ?_
    refine g0 (jb false) fun h5 => ?_
    refine g_end ?_
    refine e_home (r := 18) (x := 4) (v := _) h4 rfl (fun s_5 hg_5 => ?_)
    refine ez [(1, (Enc.enc (x_2 : List (List Int)))), (2, (.ref (.bx 2) 0 [] (.agg [(ji x_1.1), (Enc.enc (x_1.2 : List (Int × Int)))]))), (4, (oI 4 [] (.of []))), (5, (jb false))] ⟨(hg_5 1 _ _ h1 me), (hg_5 2 _ _ h2 (map_bx rfl (map_agg (maps_cons mi (maps_cons me maps_nil))))), (hg_5 4 _ _ h4 (map_encO (r := 18) (p := []) rfl rfl)), (hg_5 5 _ _ h5 mb)⟩ ?_
    rintro s ⟨h1, h2, h4, h5⟩
    refine .nsq (.ret ?_)
    have hr := Option.some.inj h
    subst hr
    exact rrB (res_tmp h4) (res_tmp h5) (fin_ret1 (fin_tup (fins_cons (fin_own (o := .of [])) (fins_cons (fin_enc (x := (false : Bool))) fins_nil))))
  refine .skip (.nsq (.seq (rg (g1 2 (.agg [(ji x_1.1), (Enc.enc (x_1.2 : List (Int × Int)))]) h2 fun h19 => ?_))))
  obtain ⟨r_6, E_r_6, h⟩ := bind_some h
  refine g_call (m := 0) (al := true) (r := (Enc.enc (r_6 : (List Int)))) [Enc.enc (x_1 : (Int × (List (Int × Int))))] (ta_cons (v := (.agg [(ji x_1.1), (Enc.enc (x_1.2 : List (Int × Int)))])) h19 rfl (Enc.erase_enc (x_1 : (Int × (List (Int × Int))))) ta_nil) (H.c86 _ _ E_r_6) H.g86 (hal_of (ht_cons (v := (.agg [(ji x_1.1), (Enc.enc (x_1.2 : List (Int × Int)))])) h19 rfl rfl ht_nil)) rfl rfl rfl ?_
  refine gm (rfl : (_ : V) = (eL r_6)) fun h6 => ?_
  refine gq (.nsq (.seq (.seq (rg (g0 (ji 0) fun h7 => gq (.nsq (.block (.loop ?_))))))))
  exact t_f39_l1 H x_2 x_1 F r_6 0 _ ⟨h1, h2, h4, h5, h6, h7⟩ h
def s_BrambleCover (F : Nat) (x_1 : (Int × (List (Int × Int)))) (x_2 : (List (List Int))) : Option ((List Int) × Bool) :=
  (s_l2Good F x_1).bind fun r_39 =>
  bif (!r_39) then
    s_BrambleCover_j3 F x_2 x_1 true
  else
    (s_l5Bramble F x_1 x_2).bind fun r_40 =>
    s_BrambleCover_j3 F x_2 x_1 (!r_40)
theorem t39 (H : H39 D σ F) (x_1 : (Int × (List (Int × Int)))) (x_2 : (List (List Int))) (s : Nat → V) (hs : Facts [(0, (.agg [(ji x_1.1), (Enc.enc (x_1.2 : List (Int × Int)))])), (1, (Enc.enc (x_2 : List (List Int))))] s) (h : s_BrambleCover F x_1 x_2 = some r) : Run D σ (R39 r) (.run A39 []) s := by
  unfold s_BrambleCover at h
  obtain ⟨h0, h1⟩ := hs
  refine .seq (run_reg ?_)
  refine e_clr ?_
  refine ez [(0, _), (1, _), (2, _)] ⟨(keep_clear (pk := [2]) h0 rfl (map_agg (maps_cons mi (maps_cons me maps_nil)))), (keep_clear (pk := [2]) h1 rfl me), (gone_clear (pk := [2]) (t := 2) rfl)⟩ ?_
  rintro s ⟨h0, h1, h2⟩
  refine g_box (.agg [(ji x_1.1), (Enc.enc (x_1.2 : List (Int × Int)))]) (rd_of h0 rfl) h2 rfl ?_
  refine g0 (.sl .nl (Enc.shp Int) 0 []) fun h4 => ?_
  refine g0 (jb false) fun h5 => ?_
  refine gq (.nsq (.seq (.seq (rg (g1 2 (.agg [(ji x_1.1), (Enc.enc (x_1.2 : List (Int × Int)))]) (rfl : (_ : V) = (.ref (.bx 2) 0 [] (.agg [(ji x_1.1), (Enc.enc (x_1.2 : List (Int × Int)))]))) fun h9 => ?_)))))
  obtain ⟨r_39, E_r_39, h⟩ := bind_some h
  refine g_call (m := 0) (al := false) (r := (Enc.enc (r_39 : Bool))) [Enc.enc (x_1 : (Int × (List (Int × Int))))] (ta_cons (v := (.agg [(ji x_1.1), (Enc.enc (x_1.2 : List (Int × Int)))])) h9 rfl (Enc.erase_enc (x_1 : (Int × (List (Int × Int))))) ta_nil) (H.c72 _ _ E_r_39) H.g72 rfl rfl rfl rfl ?_
  refine g1 10 (jb (!r_39)) (rfl : (_ : V) = (jb r_39)) fun h11 => ?_
  refine gm h11 fun h12 => split_on (c := (!r_39)) h (fun hg4 h => ?_) (fun hg4 h => ?_)
  · refine g_no (h12.trans (congrArg V.bool hg4)) ?_
    refine g_no (h12.trans (congrArg V.bool hg4)) ?_
    refine g_no (h12.trans (congrArg V.bool hg4)) ?_
    refine g_no (h12.trans (congrArg V.bool hg4)) ?_
    refine g2 12 16 (jb true) (h12.trans (congrArg V.bool hg4)) (rfl : (_ : V) = (.tup [])) fun h17 => ?_
    refine gq ?_
    exact t_f39_j3 H x_2 x_1 true _ ⟨h1, rfl, h4, h5, h17⟩ h
  refine g_yes (h12.trans (congrArg V.bool hg4)) (g1 2 (.agg [(ji x_1.1), (Enc.enc (x_1.2 : List (Int × Int)))]) (rfl : (_ : V) = (.ref (.bx 2) 0 [] (.agg [(ji x_1.1), (Enc.enc (x_1.2 : List (Int × Int)))]))) fun h13 => ?_)
  refine g_yes (h12.trans (congrArg V.bool hg4)) (gm h1 fun h14 => ?_)
  obtain ⟨r_40, E_r_40, h⟩ := bind_some h
  refine g_yes (h12.trans (congrArg V.bool hg4)) (g_call (m := 0) (al := false) (r := (Enc.enc (r_40 : Bool))) [Enc.enc (x_1 : (Int × (List (Int × Int)))), Enc.enc (x_2 : (List (List Int)))] (ta_cons (v := (.agg [(ji x_1.1), (Enc.enc (x_1.2 : List (Int × Int)))])) h13 rfl (Enc.erase_enc (x_1 : (Int × (List (Int × Int))))) (ta_cons (v := (Enc.enc (x_2 : List (List Int)))) h14 rfl (Enc.erase_enc (x_2 : (List (List Int)))) ta_nil)) (H.c85 _ _ _ E_r_40) H.g85 rfl rfl rfl rfl ?_)
  refine g_yes (h12.trans (congrArg V.bool hg4)) (g1 15 (jb (!r_40)) (rfl : (_ : V) = (jb r_40)) fun h16 => ?_)
  refine g2 12 16 (jb (!r_40)) (h12.trans (congrArg V.bool hg4)) h16 fun h17 => ?_
  refine gq ?_
  exact t_f39_j3 H x_2 x_1 (!r_40) _ ⟨h1, rfl, h4, h5, h17⟩ h
end
def e39 (F : Nat) : Ent := ent 39 (fun (x : ((Int × (List (Int × Int))) × (List (List Int)) × Unit)) => s_BrambleCover F x.1 x.2.1) (fun (r : ((List Int) × Bool)) => (.tup [Enc.enc (r.1 : (List Int)), Enc.enc (r.2 : Bool)])) 0 true []
theorem p39 {F : Nat} {x0 : (Int × (List (Int × Int)))} {x1 : (List (List Int))} {r : ((List Int) × Bool)} (h : s_BrambleCover F x0 x1 = some r) : (e39 F).den [Enc.enc x0, Enc.enc x1] = some (.tup [Enc.enc (r.1 : (List Int)), Enc.enc (r.2 : Bool)]) := ent_put (x0, x1, ()) h
theorem o39 {D : Den} {σ : Sig} {F : Nat} (hF : Fits2 Try.prog D σ) (H : H39 D σ F) : (e39 F).Ok Try.prog := by
  refine ok_of (f := 39) (show unk 39 = 39 from rfl) (fun args r h => ?_) ⟨Try.f39, Try.func39, rfl, rfl⟩
  obtain ⟨⟨x0, x1, _⟩, y, rfl, hy, rfl⟩ := da_open h
  exact contract_run hF (by kernel_rfl) Try.func39 rfl c39 (show 2 ≤ Try.f39.ntmps by decide) (t39 H x0 x1 _ ⟨rfl, rfl⟩ hy)
/- loop.example/g01109/impl.within -/
def A105_1 : AC := (.seq (.reg [] [(jm 7 0), (jm 8 1), ((jv 9 (.bin .geq (.t 7) (.t 8)))), (jm 10 9), ((jg 11 10 true (.mov (.t 0)))), ((jg 12 10 true (.mov (.t 2)))), ((jg 13 10 true (.bin .leq (.t 11) (.t 12)))), ((jv 14 (.pick (.t 10) (.t 13) (.k (.bool false))))), (jm 6 14)] []) .ret)
def A105 : AC := (.seq (.reg [] [((jv 6 (.mov (.k (.bool false)))))] []) A105_1)
def an105 : List An := []
theorem c105 : cC Try.prog Try.f105.ntmps an105 (Try.f105.body.getD .skip) = some A105 := by kernel_rfl
structure H105 (D : Den) (σ : Sig) (F : Nat) : Prop where
  mk ::
abbrev R105 (r : Bool) : (Nat → V) → Prop := RR Try.prog [.tmp 6] 0 false (Enc.enc (r : Bool))
section
variable {D : Den} {σ : Sig} {F : Nat} {r : Bool}
def i_within (F : Nat) (x_1 : Int) (x_2 : Int) (x_3 : Int) : Option Bool :=
  bif decide (x_1 ≥ x_2) then
    some (decide (x_1 ≤ x_3))
  else
    some false
theorem t105 (H : H105 D σ F) (x_1 : Int) (x_2 : Int) (x_3 : Int) (s : Nat → V) (hs : Facts [(0, (ji x_1)), (1, (ji x_2)), (2, (ji x_3))] s) (h : i_within F x_1 x_2 x_3 = some r) : Run D σ (R105 r) (.run A105 []) s := by
  unfold i_within at h
  obtain ⟨h0, h1, h2⟩ := hs
  refine .seq (rg (g0 (jb false) fun h6 => ?_))
  refine gq (.nsq (.seq (rg (gm h0 fun h7 => gm h1 fun h8 => g2 7 8 (jb (decide (x_1 ≥ x_2))) h7 h8 fun h9 => ?_))))
  refine gm h9 fun h10 => split_on (c := decide (x_1 ≥ x_2)) h (fun hg4 h => ?_) (fun hg4 h => ?_)
  · refine g_yes (h10.trans (congrArg V.bool hg4)) (gm h0 fun h11 => ?_)
    refine g_yes (h10.trans (congrArg V.bool hg4)) (gm h2 fun h12 => ?_)
    refine g_yes (h10.trans (congrArg V.bool hg4)) (g2 11 12 (jb (decide (x_1 ≤ x_3))) h11 h12 fun h13 => ?_)
    refine g2 10 13 (jb (decide (x_1 ≤ x_3))) (h10.trans (congrArg V.bool hg4)) h13 fun h14 => ?_
    refine gm h14 fun h6 => gq (.nsq (.ret ?_))
    have hr := Option.some.inj h
    subst hr
    exact rrA (res_tmp h6) rfl
  refine g_no (h10.trans (congrArg V.bool hg4)) ?_
  refine g_no (h10.trans (congrArg V.bool hg4)) ?_
  refine g_no (h10.trans (congrArg V.bool hg4)) ?_
  refine g2 10 13 (jb false) (h10.trans (congrArg V.bool hg4)) (rfl : (_ : V) = (.tup [])) fun h14 => ?_
  refine gm h14 fun h6 => gq (.nsq (.ret ?_))
  have hr := Option.some.inj h
  subst hr
  exact rrA (res_tmp h6) rfl
end
def e105 (F : Nat) : Ent := ent 105 (fun (x : (Int × Int × Int × Unit)) => i_within F x.1 x.2.1 x.2.2.1) (fun (r : Bool) => (Enc.enc (r : Bool))) 0 false []
theorem p105 {F : Nat} {x0 : Int} {x1 : Int} {x2 : Int} {r : Bool} (h : i_within F x0 x1 x2 = some r) : (e105 F).den [Enc.enc x0, Enc.enc x1, Enc.enc x2] = some (Enc.enc (r : Bool)) := ent_put (x0, x1, x2, ()) h
theorem o105 {D : Den} {σ : Sig} {F : Nat} (hF : Fits2 Try.prog D σ) (H : H105 D σ F) : (e105 F).Ok Try.prog := by
  refine ok_of (f := 105) (show unk 105 = 105 from rfl) (fun args r h => ?_) ⟨Try.f105, Try.func105, rfl, rfl⟩
  obtain ⟨⟨x0, x1, x2, _⟩, y, rfl, hy, rfl⟩ := da_open h
  exact contract_run hF (by kernel_rfl) Try.func105 rfl c105 (show 3 ≤ Try.f105.ntmps by decide) (t105 H x0 x1 x2 _ ⟨rfl, rfl, rfl⟩ hy)
/- cmp.isNaN[int] -/
def A180_1 : AC := (.seq (.reg [] [(jm 3 0), (jm 4 0), ((jv 5 (.bin .neq (.t 3) (.t 4)))), (jm 2 5)] []) .ret)
def A180 : AC := (.seq (.reg [] [((jv 2 (.mov (.k (.bool false)))))] []) A180_1)
def an180 : List An := []
theorem c180 : cC Try.prog Try.f180.ntmps an180 (Try.f180.body.getD .skip) = some A180 := by kernel_rfl
structure H180 (D : Den) (σ : Sig) (F : Nat) : Prop where
  mk ::
abbrev R180 (r : Bool) : (Nat → V) → Prop := RR Try.prog [.tmp 2] 0 false (Enc.enc (r : Bool))
section
variable {D : Den} {σ : Sig} {F : Nat} {r : Bool}
def cmp_isNaN_int (F : Nat) (x_1 : Int) : Option Bool :=
  some (x_1 != x_1)
theorem t180 (H : H180 D σ F) (x_1 : Int) (s : Nat → V) (hs : Facts [(0, (ji x_1))] s) (h : cmp_isNaN_int F x_1 = some r) : Run D σ (R180 r) (.run A180 []) s := by
  unfold cmp_isNaN_int at h
  have h0 := hs
  refine .seq (rg (g0 (jb false) fun h2 => ?_))
  refine gq (.nsq (.seq (rg (gm h0 fun h3 => gm h0 fun h4 => g2 3 4 (jb (x_1 != x_1)) h3 h4 fun h5 => ?_))))
  refine gm h5 fun h2 => gq (.nsq (.ret ?_))
  have hr := Option.some.inj h
  subst hr
  exact rrA (res_tmp h2) rfl
end
def e180 (F : Nat) : Ent := ent 180 (fun (x : (Int × Unit)) => cmp_isNaN_int F x.1) (fun (r : Bool) => (Enc.enc (r : Bool))) 0 false []
theorem p180 {F : Nat} {x0 : Int} {r : Bool} (h : cmp_isNaN_int F x0 = some r) : (e180 F).den [Enc.enc x0] = some (Enc.enc (r : Bool)) := ent_put (x0, ()) h
theorem o180 {D : Den} {σ : Sig} {F : Nat} (hF : Fits2 Try.prog D σ) (H : H180 D σ F) : (e180 F).Ok Try.prog := by
  refine ok_of (f := 180) (show unk 180 = 180 from rfl) (fun args r h => ?_) ⟨Try.f180, Try.func180, rfl, rfl⟩
  obtain ⟨⟨x0, _⟩, y, rfl, hy, rfl⟩ := da_open h
  exact contract_run hF (by kernel_rfl) Try.func180 rfl c180 (show 1 ≤ Try.f180.ntmps by decide) (t180 H x0 _ rfl hy)
/- cmp.Compare[int] -/
def A153_5 : AC := (.cond (.t 12) (.seq (.reg [] [((jv 4 (.mov (jn 0))))] []) .ret) .skip)
def A153_6 : AC := (.seq (.reg [] [((jv 4 (.mov (jn (-1)))))] []) .ret)
def A153_4 : AC := (.cond (.t 11) (.seq (.seq (.reg [] [(jm 12 6)] []) A153_5) A153_6) .skip)
def A153_8 : AC := (.cond (.t 13) (.seq (.reg [] [((jv 4 (.mov (jn 1))))] []) .ret) .skip)
def A153_10 : AC := (.cond (.t 16) (.seq (.reg [] [((jv 4 (.mov (jn (-1)))))] []) .ret) .skip)
def A153_12 : AC := (.cond (.t 19) (.seq (.reg [] [((jv 4 (.mov (jn 1))))] []) .ret) .skip)
def A153_13 : AC := (.seq (.reg [] [((jv 4 (.mov (jn 0))))] []) .ret)
def A153_11 : AC := (.seq (.seq (.reg [] [(jm 17 0), (jm 18 1), ((jv 19 (.bin .gtr (.t 17) (.t 18))))] []) A153_12) A153_13)
def A153_9 : AC := (.seq (.seq (.reg [] [(jm 14 0), (jm 15 1), ((jv 16 (.bin .lss (.t 14) (.t 15))))] []) A153_10) A153_11)
def A153_7 : AC := (.seq (.seq (.reg [] [(jm 13 6)] []) A153_8) A153_9)
def A153_3 : AC := (.seq (.seq (.reg [] [(jm 11 5)] []) A153_4) A153_7)
def A153_2 : AC := (.seq (.reg [] [(jm 9 1), (.mk (some 10) none false (.call (.k (.fn 180 [] [])) [(.t 9)])), (jm 6 10)] []) A153_3)
def A153_1 : AC := (.seq (.reg [] [(jm 7 0), (.mk (some 8) none false (.call (.k (.fn 180 [] [])) [(.t 7)])), (jm 5 8)] []) A153_2)
def A153 : AC := (.seq (.reg [] [((jv 4 (.mov (jn 0))))] []) A153_1)
def an153 : List An := []
theorem c153 : cC Try.prog Try.f153.ntmps an153 (Try.f153.body.getD .skip) = some A153 := by kernel_rfl
structure H153 (D : Den) (σ : Sig) (F : Nat) : Prop where
  c180 : ∀ (x0 : Int) r, cmp_isNaN_int F x0 = some r → D 180 [Enc.enc x0] = some (Enc.enc (r : Bool))
  g180 : σ 180 = some (0, false)
abbrev R153 (r : Int) : (Nat → V) → Prop := RR Try.prog [.tmp 4] 0 false (Enc.enc (r : Int))
section
variable {D : Den} {σ : Sig} {F : Nat} {r : Int}
def cmp_Compare_int (F : Nat) (x_1 : Int) (x_2 : Int) : Option Int :=
  (cmp_isNaN_int F x_1).bind fun r_3 =>
  (cmp_isNaN_int F x_2).bind fun r_4 =>
  bif r_3 then
    bif r_4 then
      some 0
    else
      some (-1)
  else
    bif r_4 then
      some 1
    else
      bif decide (x_1 < x_2) then
        some (-1)
      else
        bif decide (x_1 > x_2) then
          some 1
        else
          some 0
theorem t153 (H : H153 D σ F) (x_1 : Int) (x_2 : Int) (s : Nat → V) (hs : Facts [(0, (ji x_1)), (1, (ji x_2))] s) (h : cmp_Compare_int F x_1 x_2 = some r) : Run D σ (R153 r) (.run A153 []) s := by
  unfold cmp_Compare_int at h
  obtain ⟨h0, h1⟩ := hs
  refine .seq (rg (g0 (ji 0) fun h4 => gq (.nsq (.seq (rg (gm h0 fun h7 => ?_))))))
  obtain ⟨r_3, E_r_3, h⟩ := bind_some h
  refine g_call (m := 0) (al := false) (r := (Enc.enc (r_3 : Bool))) [Enc.enc (x_1 : Int)] (ta_cons (v := (ji x_1)) h7 rfl rfl ta_nil) (H.c180 _ _ E_r_3) H.g180 rfl rfl rfl rfl ?_
  refine gm (rfl : (_ : V) = (jb r_3)) fun h5 => ?_
  refine gq (.nsq (.seq (rg (gm h1 fun h9 => ?_))))
  obtain ⟨r_4, E_r_4, h⟩ := bind_some h
  refine g_call (m := 0) (al := false) (r := (Enc.enc (r_4 : Bool))) [Enc.enc (x_2 : Int)] (ta_cons (v := (ji x_2)) h9 rfl rfl ta_nil) (H.c180 _ _ E_r_4) H.g180 rfl rfl rfl rfl ?_
  refine gm (rfl : (_ : V) = (jb r_4)) fun h6 => ?_
  refine gq (.nsq (.seq (.seq (rg (gm h5 fun h11 => gq (.nsq (run_cond (t := r_3) h11 h (fun h => ?_) (fun h => ?_))))))))
  · refine .seq (.seq (rg (gm h6 fun h12 => gq (.nsq (run_cond (t := r_4) h12 h (fun h => ?_) (fun h => ?_))))))
    · refine .seq (rg (g0 (ji 0) fun h4 => gq (.nsq (.ret ?_))))
      have hr := Option.some.inj h
      subst hr
      exact rrA (res_tmp h4) rfl
    refine .skip (.nsq (.seq (rg (g0 (ji (-1)) fun h4 => ?_))))
    refine gq (.nsq (.ret ?_))
    have hr := Option.some.inj h
    subst hr
    exact rrA (res_tmp h4) rfl
  refine .skip (.nsq (.seq (.seq (rg (gm h6 fun h13 => gq (.nsq (run_cond (t := r_4) h13 h (fun h => ?_) (fun h => ?_))))))))
  · refine .seq (rg (g0 (ji 1) fun h4 => gq (.nsq (.ret ?_))))
    have hr := Option.some.inj h
    subst hr
    exact rrA (res_tmp h4) rfl
  refine .skip (.nsq (.seq (.seq (rg (gm h0 fun h14 => gm h1 fun h15 => g2 14 15 (jb (decide (x_1 < x_2))) h14 h15 fun h16 => ?_)))))
  refine gq (.nsq (run_cond (t := decide (x_1 < x_2)) h16 h (fun h => ?_) (fun h => ?_)))
  · refine .seq (rg (g0 (ji (-1)) fun h4 => ?_))
    refine gq (.nsq (.ret ?_))
    have hr := Option.some.inj h
    subst hr
    exact rrA (res_tmp h4) rfl
  refine .skip (.nsq (.seq (.seq (rg (gm h0 fun h17 => gm h1 fun h18 => g2 17 18 (jb (decide (x_1 > x_2))) h17 h18 fun h19 => ?_)))))
  refine gq (.nsq (run_cond (t := decide (x_1 > x_2)) h19 h (fun h => ?_) (fun h => ?_)))
  · refine .seq (rg (g0 (ji 1) fun h4 => gq (.nsq (.ret ?_))))
    have hr := Option.some.inj h
    subst hr
    exact rrA (res_tmp h4) rfl
  refine .skip (.nsq (.seq (rg (g0 (ji 0) fun h4 => gq (.nsq (.ret ?_))))))
  have hr := Option.some.inj h
  subst hr
  exact rrA (res_tmp h4) rfl
end
def e153 (F : Nat) : Ent := ent 153 (fun (x : (Int × Int × Unit)) => cmp_Compare_int F x.1 x.2.1) (fun (r : Int) => (Enc.enc (r : Int))) 0 false []
theorem p153 {F : Nat} {x0 : Int} {x1 : Int} {r : Int} (h : cmp_Compare_int F x0 x1 = some r) : (e153 F).den [Enc.enc x0, Enc.enc x1] = some (Enc.enc (r : Int)) := ent_put (x0, x1, ()) h
theorem o153 {D : Den} {σ : Sig} {F : Nat} (hF : Fits2 Try.prog D σ) (H : H153 D σ F) : (e153 F).Ok Try.prog := by
  refine ok_of (f := 153) (show unk 153 = 153 from rfl) (fun args r h => ?_) ⟨Try.f153, Try.func153, rfl, rfl⟩
  obtain ⟨⟨x0, x1, _⟩, y, rfl, hy, rfl⟩ := da_open h
  exact contract_run hF (by kernel_rfl) Try.func153 rfl c153 (show 2 ≤ Try.f153.ntmps by decide) (t153 H x0 x1 _ ⟨rfl, rfl⟩ hy)
/- slices.Compare[[]int,int] -/
def A94_5 : AC := (.cond (.t 19) (.seq (.reg [] [((jv 4 (.mov (jn 1))))] []) .ret) .skip)
def A94_9 : AC := (.cond (.t 28) (.seq (.reg [] [(jm 29 8), (jm 4 29)] []) .ret) .skip)
def A94_8 : AC := (.seq (.reg [] [(jm 27 8), ((jv 28 (.bin .neq (.t 27) (jn 0))))] []) A94_9)
def A94_7 : AC := (.seq (.reg [] [(jm 24 6), (jm 25 7), (.mk (some 26) none false (.call (.k (.fn 153 [] [])) [(.t 24), (.t 25)])), (jm 8 26)] []) A94_8)
def A94_6 : AC := (.seq (.reg [] [(jm 20 1), (jm 21 5), ((jv 22 (.idx (.t 20) (.t 21) 1))), ((jv 23 (.load .s (.t 22)))), (jm 7 23)] []) A94_7)
def A94_4 : AC := (.seq (.seq (.reg [] [(jm 16 5), (jm 17 1), ((jv 18 (.len (.t 17)))), ((jv 19 (.bin .geq (.t 16) (.t 18))))] []) A94_5) A94_6)
def A94_10 : AC := (.reg [] [((jv 30 (.bin .add (.t 11) (jn 1)))), (jm 11 30)] [])
def A94_3 : AC := (.seq (.block 1 (.seq (.reg [] [(jm 13 11), ((jv 14 (.idx (.t 9) (.t 11) 1))), ((jv 15 (.load .s (.t 14)))), (jm 5 13), (jm 6 15)] []) A94_4)) A94_10)
def A94_2 : AC := (.seq (.cond (.t 12) .skip (.exit 0)) A94_3)
def A94_1 : AC := (.seq (.reg [] [((jv 12 (.bin .lss (.t 11) (.t 10))))] []) A94_2)
def A94_12 : AC := (.cond (.t 35) (.seq (.reg [] [((jv 4 (.mov (jn (-1)))))] []) .ret) .skip)
def A94_13 : AC := (.seq (.reg [] [((jv 4 (.mov (jn 0))))] []) .ret)
def A94_11 : AC := (.seq (.seq (.reg [] [(jm 31 0), ((jv 32 (.len (.t 31)))), (jm 33 1), ((jv 34 (.len (.t 33)))), ((jv 35 (.bin .lss (.t 32) (.t 34))))] []) A94_12) A94_13)
def A94_15 : AC := (.block 0 (.loop A94_1))
def A94_14 : AC := (.seq (.seq (.reg [] [(jm 9 0), ((jv 10 (.len (.t 9)))), ((jv 11 (.mov (jn 0))))] []) A94_15) A94_11)
def A94 : AC := (.seq (.reg [] [((jv 4 (.mov (jn 0))))] []) A94_14)
def an94 : List An := []
theorem c94 : cC Try.prog Try.f94.ntmps an94 (Try.f94.body.getD .skip) = some A94 := by kernel_rfl
structure H94 (D : Den) (σ : Sig) (F : Nat) : Prop where
  c153 : ∀ (x0 : Int) (x1 : Int) r, cmp_Compare_int F x0 x1 = some r → D 153 [Enc.enc x0, Enc.enc x1] = some (Enc.enc (r : Int))
  g153 : σ 153 = some (0, false)
abbrev R94 (r : Int) : (Nat → V) → Prop := RR Try.prog [.tmp 4] 0 false (Enc.enc (r : Int))
section
variable {D : Den} {σ : Sig} {F : Nat} {r : Int}
def slices_Compare_l1 (F : Nat) (x_1 : (List Int)) (x_2 : (List Int))  : Nat → Int → Option Int
  | 0, _ => none
  | k + 1, x_6 =>
    bif decide (x_6 < (x_1.length : Int)) then
      (idx x_1 x_6).bind fun e_10 =>
      bif decide (x_6 ≥ (x_2.length : Int)) then
        some 1
      else
        (idx x_2 x_6).bind fun e_11 =>
        (cmp_Compare_int F e_10 e_11).bind fun r_12 =>
        bif (r_12 != 0) then
          some r_12
        else
          (slices_Compare_l1 F x_1 x_2 k) (w64 (x_6 + 1))
    else
      bif decide ((x_1.length : Int) < (x_2.length : Int)) then
        some (-1)
      else
        some 0
theorem t_f94_l1 (H : H94 D σ F) (x_1 : (List Int)) (x_2 : (List Int))  : ∀ (k : Nat) (x_6 : Int) (s : Nat → V), Facts [(0, (eL x_1)), (1, (eL x_2)), (4, (ji 0)), (9, (eL x_1)), (10, (ji (x_1.length : Int))), (11, (ji x_6))] s → slices_Compare_l1 F x_1 x_2 k x_6 = some r → Run D σ (R94 r) (.run A94_1 [.lp A94_1, .bk 0, .sq A94_11]) s := by
  intro k
  induction k with
  | zero => intro x_6 s _ h; exact nomatch (h : (none : Option _) = some r)
  | succ k ih =>
    intro x_6 s hs h
    rw [slices_Compare_l1] at h
    obtain ⟨h0, h1, h4, h9, h10, h11⟩ := hs
    refine .seq (rg (g2 11 10 (jb (decide (x_6 < (x_1.length : Int)))) h11 h10 fun h12 => ?_))
    refine gq (.nsq (.seq (run_cond (t := decide (x_6 < (x_1.length : Int))) h12 h (fun h => ?_) (fun h => ?_))))
    · refine .skip (.nsq (.seq (.block (.seq (rg (gm h11 fun h13 => ?_))))))
      obtain ⟨e_10, E_e_10, h⟩ := bind_some h
      refine gv (.ref .sh 0 [] (ji e_10)) (ev_idx (t := .sh) (lo := 0) (xs := x_1) h9 h11 E_e_10 rfl rfl) fun h14 => ?_
      refine g1 14 (ji e_10) h14 fun h15 => ?_
      refine gm h13 fun h5 => gm h15 fun h6 => gq (.nsq (.seq (.seq (rg (gm h5 fun h16 => gm h1 fun h17 => gv (ji (x_2.length : Int)) (ev_len (xs := x_2) h17) fun h18 => ?_)))))
      refine g2 16 18 (jb (decide (x_6 ≥ (x_2.length : Int)))) h16 h18 fun h19 => ?_
      refine gq (.nsq (run_cond (t := decide (x_6 ≥ (x_2.length : Int))) h19 h (fun h => ?_) (fun h => ?_)))
      · refine .seq (rg (g0 (ji 1) fun h4 => gq (.nsq (.ret ?_))))
        have hr := Option.some.inj h
        subst hr
        exact rrA (res_tmp h4) rfl
      refine .skip (.nsq (.seq (rg (gm h1 fun h20 => gm h5 fun h21 => ?_))))
      obtain ⟨e_11, E_e_11, h⟩ := bind_some h
      refine gv (.ref .sh 0 [] (ji e_11)) (ev_idx (t := .sh) (lo := 0) (xs := x_2) h20 h21 E_e_11 rfl rfl) fun h22 => ?_
      refine g1 22 (ji e_11) h22 fun h23 => ?_
      refine gm h23 fun h7 => gq (.nsq (.seq (rg (gm h6 fun h24 => gm h7 fun h25 => ?_))))
      obtain ⟨r_12, E_r_12, h⟩ := bind_some h
      refine g_call (m := 0) (al := false) (r := (Enc.enc (r_12 : Int))) [Enc.enc (e_10 : Int), Enc.enc (e_11 : Int)] (ta_cons (v := (ji e_10)) h24 rfl rfl (ta_cons (v := (ji e_11)) h25 rfl rfl ta_nil)) (H.c153 _ _ _ E_r_12) H.g153 rfl rfl rfl rfl ?_
      refine gm (rfl : (_ : V) = (ji r_12)) fun h8 => ?_
      refine gq (.nsq (.seq (rg (gm h8 fun h27 => g1 27 (jb (r_12 != 0)) h27 fun h28 => ?_))))
      refine gq (.nsq (run_cond (t := (r_12 != 0)) h28 h (fun h => ?_) (fun h => ?_)))
      · refine .seq (rg (gm h8 fun h29 => gm h29 fun h4 => gq (.nsq (.ret ?_))))
        have hr := Option.some.inj h
        subst hr
        exact rrA (res_tmp h4) rfl
      refine .skip (.nbk (.nsq (rg (g1 11 (ji (w64 (x_6 + 1))) h11 fun h30 => ?_))))
      refine gm h30 fun h11 => gq (.nlp ?_)
      exact ih (w64 (x_6 + 1)) _ ⟨h0, h1, h4, h9, h10, h11⟩ h
    refine .exit (.esq (.elp (.ebk (.nsq (.seq (.seq (rg (gm h0 fun h31 => gv (ji (x_1.length : Int)) (ev_len (xs := x_1) h31) fun h32 => ?_))))))))
    refine gm h1 fun h33 => gv (ji (x_2.length : Int)) (ev_len (xs := x_2) h33) fun h34 => ?_
    refine g2 32 34 (jb (decide ((x_1.length : Int) < (x_2.length : Int)))) h32 h34 fun h35 => ?_
    refine gq (.nsq (run_cond (t := decide ((x_1.length : Int) < (x_2.length : Int))) h35 h (fun h => ?_) (fun h => ?_)))
    · refine .seq (rg (g0 (ji (-1)) fun h4 => ?_))
      refine gq (.nsq (.ret ?_))
      have hr := Option.some.inj h
      subst hr
      exact rrA (res_tmp h4) rfl
    refine .skip (.nsq (.seq (rg (g0 (ji 0) fun h4 => gq (.nsq (.ret ?_))))))
    have hr := Option.some.inj h
    subst hr
    exact rrA (res_tmp h4) rfl
def slices_Compare (F : Nat) (x_1 : (List Int)) (x_2 : (List Int)) : Option Int :=
  slices_Compare_l1 F x_1 x_2 F 0
theorem t94 (H : H94 D σ F) (x_1 : (List Int)) (x_2 : (List Int)) (s : Nat → V) (hs : Facts [(0, (eL x_1)), (1, (eL x_2))] s) (h : slices_Compare F x_1 x_2 = some r) : Run D σ (R94 r) (.run A94 []) s := by
  unfold slices_Compare at h
  obtain ⟨h0, h1⟩ := hs
  refine .seq (rg (g0 (ji 0) fun h4 => gq (.nsq (.seq (.seq (rg (gm h0 fun h9 => gv (ji (x_1.length : Int)) (ev_len (xs := x_1) h9) fun h10 => ?_)))))))
  refine g0 (ji 0) fun h11 => gq (.nsq (.block (.loop ?_)))
  exact t_f94_l1 H x_1 x_2 F 0 _ ⟨h0, h1, h4, h9, h10, h11⟩ h
end
def e94 (F : Nat) : Ent := ent 94 (fun (x : ((List Int) × (List Int) × Unit)) => slices_Compare F x.1 x.2.1) (fun (r : Int) => (Enc.enc (r : Int))) 0 false []
theorem p94 {F : Nat} {x0 : (List Int)} {x1 : (List Int)} {r : Int} (h : slices_Compare F x0 x1 = some r) : (e94 F).den [Enc.enc x0, Enc.enc x1] = some (Enc.enc (r : Int)) := ent_put (x0, x1, ()) h
theorem o94 {D : Den} {σ : Sig} {F : Nat} (hF : Fits2 Try.prog D σ) (H : H94 D σ F) : (e94 F).Ok Try.prog := by
  refine ok_of (f := 94) (show unk 94 = 94 from rfl) (fun args r h => ?_) ⟨Try.f94, Try.func94, rfl, rfl⟩
  obtain ⟨⟨x0, x1, _⟩, y, rfl, hy, rfl⟩ := da_open h
  exact contract_run hF (by kernel_rfl) Try.func94 rfl c94 (show 2 ≤ Try.f94.ntmps by decide) (t94 H x0 x1 _ ⟨rfl, rfl⟩ hy)
/- loop.example/g01109/impl.IsGraph -/
def A63_5 : AC := (.cond (.t 48) (.seq (.reg [] [((jv 2 (.mov (.k (.bool false)))))] []) .ret) .skip)
def A63_4 : AC := (.seq (.reg [] [((jv 17 (.idxA (.t 4) (jn 0) 2 1))), ((jv 18 (.load .s (.t 17)))), ((jv 19 (.bin .lss (.t 18) (jn 0)))), (jm 20 19), ((jg 21 20 false (.idxA (.t 4) (jn 0) 2 1))), ((jg 22 20 false (.load .s (.t 21)))), ((jg 23 20 false (.idxA (.t 4) (jn 1) 2 1))), ((jg 24 20 false (.load .s (.t 23)))), ((jg 25 20 false (.bin .geq (.t 22) (.t 24)))), ((jv 26 (.pick (.t 20) (.k (.bool true)) (.t 25)))), (jm 27 26), ((jg 28 27 false (.idxA (.t 4) (jn 1) 2 1))), ((jg 29 27 false (.load .s (.t 28)))), ((jg 30 27 false (.fld (.t 1) 0 0))), ((jg 31 27 false (.load .s (.t 30)))), ((jg 32 27 false (.bin .geq (.t 29) (.t 31)))), ((jv 33 (.pick (.t 27) (.k (.bool true)) (.t 32)))), (jm 34 33), ((jg 35 34 false (.mov (.t 3)))), ((jg 36 34 false (.bin .gtr (.t 35) (jn 0)))), ((jg 37 34 false (.mov (.t 36)))), ((jg 38 37 true (.fld (.t 1) 1 1))), ((jg 39 37 true (.load .p (.t 38)))), ((jg 40 37 true (.mov (.t 3)))), ((jg 41 37 true (.bin .sub (.t 40) (jn 1)))), ((jg 42 37 true (.idx (.t 39) (.t 41) 2))), ((jg 43 37 true (.sliceA (.t 42) 2 .s))), ((jg 44 37 true (.sliceA (.t 4) 2 .s))), (.mk (some 45) (some (37, true)) false (.call (.k (.fn 94 [] [])) [(.t 43), (.t 44)])), ((jg 46 37 true (.bin .geq (.t 45) (jn 0)))), ((jg 47 34 false (.pick (.t 37) (.t 46) (.k (.bool false))))), ((jv 48 (.pick (.t 34) (.k (.bool true)) (.t 47))))] []) A63_5)
def A63_6 : AC := (.reg [] [((jv 49 (.bin .add (.t 12) (jn 1)))), (jm 12 49)] [])
def A63_3 : AC := (.seq (.block 1 (.seq (.reg [.clr [4]] [(jm 14 12), ((jv 15 (.idx (.t 10) (.t 12) 2))), ((jv 16 (.load (.ag [.s, .s]) (.t 15)))), (.mk (some 4) none false (.alloc (.agg [(.int .i64 (.ofNat 0)), (.int .i64 (.ofNat 0))]))), (jm 3 14), (.mk none none false (.store (.ag [.s, .s]) (.t 4) (.t 16)))] []) A63_4)) A63_6)
def A63_2 : AC := (.seq (.cond (.t 13) .skip (.exit 0)) A63_3)
def A63_1 : AC := (.seq (.reg [] [((jv 13 (.bin .lss (.t 12) (.t 11))))] []) A63_2)
def A63_7 : AC := (.seq (.reg [] [((jv 2 (.mov (.k (.bool true)))))] []) .ret)
def A63_9 : AC := (.cond (.t 8) (.seq (.reg [] [((jv 2 (.mov (.k (.bool false)))))] []) .ret) .skip)
def A63_11 : AC := (.block 0 (.loop A63_1))
def A63_10 : AC := (.seq (.seq (.reg [] [((jv 9 (.fld (.t 1) 1 1))), ((jv 10 (.load .p (.t 9)))), ((jv 11 (.len (.t 10)))), ((jv 12 (.mov (jn 0))))] []) A63_11) A63_7)
def A63_8 : AC := (.seq (.seq (.reg [] [((jv 5 (.fld (.t 1) 0 0))), ((jv 6 (.load .s (.t 5)))), (.mk (some 7) none false (.call (.k (.fn 105 [] [])) [(.t 6), (jn 0), (jn 8)])), ((jv 8 (.un .not (.t 7))))] []) A63_9) A63_10)
def A63 : AC := (.seq (.reg [.clr [1]] [(.mk (some 1) none false (.box (.t 0))), ((jv 2 (.mov (.k (.bool false)))))] []) A63_8)
def an63 : List An := [{ id := 0, pre := [.clr [1]], ep := [], lin := [], sp := [] }, { id := 5, pre := [.clr [4]], ep := [], lin := [], sp := [] }]
theorem c63 : cC Try.prog Try.f63.ntmps an63 (Try.f63.body.getD .skip) = some A63 := by kernel_rfl
structure H63 (D : Den) (σ : Sig) (F : Nat) : Prop where
  c105 : ∀ (x0 : Int) (x1 : Int) (x2 : Int) r, i_within F x0 x1 x2 = some r → D 105 [Enc.enc x0, Enc.enc x1, Enc.enc x2] = some (Enc.enc (r : Bool))
  g105 : σ 105 = some (0, false)
  c94 : ∀ (x0 : (List Int)) (x1 : (List Int)) r, slices_Compare F x0 x1 = some r → D 94 [Enc.enc x0, Enc.enc x1] = some (Enc.enc (r : Int))
  g94 : σ 94 = some (0, false)
abbrev R63 (r : Bool) : (Nat → V) → Prop := RR Try.prog [.tmp 2] 0 false (Enc.enc (r : Bool))
section
variable {D : Den} {σ : Sig} {F : Nat} {r : Bool}
def i_IsGraph_j1 (F : Nat) (x_1 : (Int × (List (Int × Int)))) (x_9 : Int) (c1 : Int → Option Bool) (x_19 : Bool) : Option Bool :=
  bif x_19 then
    some false
  else
    c1 (w64 (x_9 + 1))
theorem t_f63_j1 (H : H63 D σ F) (x_1 : (Int × (List (Int × Int)))) (x_9 : Int) (c1 : Int → Option Bool) (Hc1 : ∀ (x_9 : Int) (s : Nat → V), Facts [(1, (.ref (.bx 1) 0 [] (.agg [(ji x_1.1), (Enc.enc (x_1.2 : List (Int × Int)))]))), (2, (jb false)), (10, (Enc.enc (x_1.2 : List (Int × Int)))), (11, (ji (x_1.2.length : Int))), (12, (ji x_9))] s → c1 x_9 = some r → Run D σ (R63 r) (.run A63_1 [.lp A63_1, .bk 0, .sq A63_7]) s) (x_19 : Bool) (s : Nat → V) (hs : Facts [(1, (.ref (.bx 1) 0 [] (.agg [(ji x_1.1), (Enc.enc (x_1.2 : List (Int × Int)))]))), (2, (jb false)), (10, (Enc.enc (x_1.2 : List (Int × Int)))), (11, (ji (x_1.2.length : Int))), (12, (ji x_9)), (48, (jb x_19))] s) (h : i_IsGraph_j1 F x_1 x_9 c1 x_19 = some r) : Run D σ (R63 r) (.nrm [.sq A63_5, .bk 1, .sq A63_6, .lp A63_1, .bk 0, .sq A63_7]) s := by
  unfold i_IsGraph_j1 at h
  obtain ⟨h1, h2, h10, h11, h12, h48⟩ := hs
  refine .nsq (run_cond (t := x_19) h48 h (fun h => ?_) (fun h => ?_))
  · refine .seq (rg (g0 (jb false) fun h2 => ?_))
    refine gq (.nsq (.ret ?_))
    have hr := Option.some.inj h
    subst hr
    exact rrA (res_tmp h2) rfl
  refine .skip (.nbk (.nsq (rg (g1 12 (ji (w64 (x_9 + 1))) h12 fun h49 => ?_))))
  refine gm h49 fun h12 => gq (.nlp ?_)
  exact Hc1 (w64 (x_9 + 1)) _ ⟨h1, h2, h10, h11, h12⟩ h
def i_IsGraph_l1 (F : Nat) (x_1 : (Int × (List (Int × Int))))  : Nat → Int → Option Bool
  | 0, _ => none
  | k + 1, x_9 =>
    bif decide (x_9 < (x_1.2.length : Int)) then
      (idx x_1.2 x_9).bind fun e_16 =>
      bif decide (e_16.1 < 0) then
        i_IsGraph_j1 F x_1 x_9 (i_IsGraph_l1 F x_1 k) true
      else
        bif decide (e_16.1 ≥ e_16.2) then
          i_IsGraph_j1 F x_1 x_9 (i_IsGraph_l1 F x_1 k) true
        else
          bif decide (e_16.2 ≥ x_1.1) then
            i_IsGraph_j1 F x_1 x_9 (i_IsGraph_l1 F x_1 k) true
          else
            bif decide (x_9 > 0) then
              (idx x_1.2 (w64 (x_9 - 1))).bind fun e_20 =>
              (slices_Compare F [e_20.1, e_20.2] [e_16.1, e_16.2]).bind fun r_21 =>
              i_IsGraph_j1 F x_1 x_9 (i_IsGraph_l1 F x_1 k) (decide (r_21 ≥ 0))
            else
              i_IsGraph_j1 F x_1 x_9 (i_IsGraph_l1 F x_1 k) false
    else
      some true
theorem t_f63_l1 (H : H63 D σ F) (x_1 : (Int × (List (Int × Int))))  : ∀ (k : Nat) (x_9 : Int) (s : Nat → V), Facts [(1, (.ref (.bx 1) 0 [] (.agg [(ji x_1.1), (Enc.enc (x_1.2 : List (Int × Int)))]))), (2, (jb false)), (10, (Enc.enc (x_1.2 : List (Int × Int)))), (11, (ji (x_1.2.length : Int))), (12, (ji x_9))] s → i_IsGraph_l1 F x_1 k x_9 = some r → Run D σ (R63 r) (.run A63_1 [.lp A63_1, .bk 0, .sq A63_7]) s := by
  intro k
  induction k with
  | zero => intro x_9 s _ h; exact nomatch (h : (none : Option _) = some r)
  | succ k ih =>
    intro x_9 s hs h
    rw [i_IsGraph_l1] at h
    obtain ⟨h1, h2, h10, h11, h12⟩ := hs
    refine .seq (rg (g2 12 11 (jb (decide (x_9 < (x_1.2.length : Int)))) h12 h11 fun h13 => ?_))
    refine gq (.nsq (.seq (run_cond (t := decide (x_9 < (x_1.2.length : Int))) h13 h (fun h => ?_) (fun h => ?_))))
    · refine .skip (.nsq (.seq (.block (.seq (run_reg ?_)))))
      refine e_clr ?_
      refine ez [(1, _), (2, _), (4, _), (10, _), (11, _), (12, _)] ⟨(keep_clear (pk := [4]) h1 rfl (map_bx rfl (map_agg (maps_cons mi (maps_cons me maps_nil))))), (keep_clear (pk := [4]) h2 rfl mb), (gone_clear (pk := [4]) (t := 4) rfl), (keep_clear (pk := [4]) h10 rfl me), (keep_clear (pk := [4]) h11 rfl mi), (keep_clear (pk := [4]) h12 rfl mi)⟩ ?_
      rintro s ⟨h1, h2, h4, h10, h11, h12⟩
      refine gm h12 fun h14 => ?_
      obtain ⟨e_16, E_e_16, h⟩ := bind_some h
      refine gv (.ref .sh 0 [] (.agg [(ji e_16.1), (ji e_16.2)])) (ev_idx (t := .sh) (lo := 0) (xs := x_1.2) h10 h12 E_e_16 rfl rfl) fun h15 => ?_
      refine g1 15 (.agg [(ji e_16.1), (ji e_16.2)]) h15 fun h16 => ?_
      refine g_alloc h4 ?_
      refine gm h14 fun h3 => g_store (.agg [(ji e_16.1), (ji e_16.2)]) (rd_of rfl rfl) (rd_of h16 rfl) (by refine ⟨by decide, by decide, rfl, rfl, rfl, ?_⟩; first | rfl | simp [V.toks, V.tokss, Enc.toks_enc]) ?_
      refine gz [(1, (.ref (.bx 1) 0 [] (.agg [(ji x_1.1), (Enc.enc (x_1.2 : List (Int × Int)))]))), (2, (jb false)), (3, (ji x_9)), (4, (.ref (.bx 4) 0 [] (.agg [(ji e_16.1), (ji e_16.2)]))), (10, (Enc.enc (x_1.2 : List (Int × Int)))), (11, (ji (x_1.2.length : Int))), (12, (ji x_9))] ⟨(keep_mut h1 (mut_ref_ne rfl rfl (mut_agg (muts_cons rfl (muts_cons (Enc.mut_enc _ _ _ _ (x_1.2 : List (Int × Int))) rfl))))), (keep_mut h2 rfl), (keep_mut h3 rfl), (keep_mut rfl rfl), (keep_mut h10 (Enc.mut_enc _ _ _ _ (x_1.2 : List (Int × Int)))), (keep_mut h11 rfl), (keep_mut h12 rfl)⟩ ?_
      rintro s ⟨h1, h2, h3, h4, h10, h11, h12⟩
      refine .nsq (.seq (rg (g1 4 (.ref (.bx 4) 0 [0] (ji e_16.1)) h4 fun h17 => ?_)))
      refine g1 17 (ji e_16.1) h17 fun h18 => ?_
      refine g1 18 (jb (decide (e_16.1 < 0))) h18 fun h19 => ?_
      refine gm h19 fun h20 => split_on (c := decide (e_16.1 < 0)) h (fun hg4 h => ?_) (fun hg4 h => ?_)
      · refine g_no (h20.trans (congrArg V.bool hg4)) ?_
        refine g_no (h20.trans (congrArg V.bool hg4)) ?_
        refine g_no (h20.trans (congrArg V.bool hg4)) ?_
        refine g_no (h20.trans (congrArg V.bool hg4)) ?_
        refine g_no (h20.trans (congrArg V.bool hg4)) ?_
        refine g2 20 25 (jb true) (h20.trans (congrArg V.bool hg4)) (rfl : (_ : V) = (.tup [])) fun h26 => ?_
        refine gm h26 fun h27 => g_no h27 ?_
        refine g_no h27 ?_
        refine g_no h27 ?_
        refine g_no h27 ?_
        refine g_no h27 ?_
        refine g2 27 32 (jb true) h27 (rfl : (_ : V) = (.tup [])) fun h33 => ?_
        refine gm h33 fun h34 => g_no h34 ?_
        refine g_no h34 ?_
        refine g_no h34 ?_
        refine g_skip rfl ?_
        refine g_skip rfl ?_
        refine g_skip rfl ?_
        refine g_skip rfl ?_
        refine g_skip rfl ?_
        refine g_skip rfl ?_
        refine g_skip rfl ?_
        refine g_skip rfl ?_
        refine g_skip rfl ?_
        refine g_no h34 ?_
        refine g2 34 47 (jb true) h34 (rfl : (_ : V) = (.tup [])) fun h48 => ?_
        refine gz [(1, _), (2, _), (10, _), (11, _), (12, _), (48, _)] ⟨h1, h2, h10, h11, h12, h48⟩ ?_
        rintro s ⟨h1, h2, h10, h11, h12, h48⟩
        exact t_f63_j1 H x_1 x_9 (i_IsGraph_l1 F x_1 k) ih true _ ⟨h1, h2, h10, h11, h12, h48⟩ h
      refine g_yes (h20.trans (congrArg V.bool hg4)) (g1 4 (.ref (.bx 4) 0 [0] (ji e_16.1)) h4 fun h21 => ?_)
      refine g_yes (h20.trans (congrArg V.bool hg4)) (g1 21 (ji e_16.1) h21 fun h22 => ?_)
      refine g_yes (h20.trans (congrArg V.bool hg4)) (g1 4 (.ref (.bx 4) 0 [1] (ji e_16.2)) h4 fun h23 => ?_)
      refine g_yes (h20.trans (congrArg V.bool hg4)) (g1 23 (ji e_16.2) h23 fun h24 => ?_)
      refine g_yes (h20.trans (congrArg V.bool hg4)) (g2 22 24 (jb (decide (e_16.1 ≥ e_16.2))) h22 h24 fun h25 => ?_)
      refine g2 20 25 (jb (decide (e_16.1 ≥ e_16.2))) (h20.trans (congrArg V.bool hg4)) h25 fun h26 => ?_
      refine gm h26 fun h27 => split_on (c := decide (e_16.1 ≥ e_16.2)) h (fun hg11 h => ?_) (fun hg11 h => ?_)
      · refine g_no (h27.trans (congrArg V.bool hg11)) ?_
        refine g_no (h27.trans (congrArg V.bool hg11)) ?_
        refine g_no (h27.trans (congrArg V.bool hg11)) ?_
        refine g_no (h27.trans (congrArg V.bool hg11)) ?_
        refine g_no (h27.trans (congrArg V.bool hg11)) ?_
        refine g2 27 32 (jb true) (h27.trans (congrArg V.bool hg11)) (rfl : (_ : V) = (.tup [])) fun h33 => ?_
        refine gm h33 fun h34 => g_no h34 ?_
        refine g_no h34 ?_
        refine g_no h34 ?_
        refine g_skip rfl ?_
        refine g_skip rfl ?_
        refine g_skip rfl ?_
        refine g_skip rfl ?_
        refine g_skip rfl ?_
        refine g_skip rfl ?_
        refine g_skip rfl ?_
        refine g_skip rfl ?_
        refine g_skip rfl ?_
        refine g_no h34 ?_
        refine g2 34 47 (jb true) h34 (rfl : (_ : V) = (.tup [])) fun h48 => ?_
        refine gz [(1, _), (2, _), (10, _), (11, _), (12, _), (48, _)] ⟨h1, h2, h10, h11, h12, h48⟩ ?_
        rintro s ⟨h1, h2, h10, h11, h12, h48⟩
        exact t_f63_j1 H x_1 x_9 (i_IsGraph_l1 F x_1 k) ih true _ ⟨h1, h2, h10, h11, h12, h48⟩ h
      refine g_yes (h27.trans (congrArg V.bool hg11)) (g1 4 (.ref (.bx 4) 0 [1] (ji e_16.2)) h4 fun h28 => ?_)
      refine g_yes (h27.trans (congrArg V.bool hg11)) (g1 28 (ji e_16.2) h28 fun h29 => ?_)
      refine g_yes (h27.trans (congrArg V.bool hg11)) (g1 1 (.ref (.bx 1) 0 [0] (ji x_1.1)) h1 fun h30 => ?_)
      refine g_yes (h27.trans (congrArg V.bool hg11)) (g1 30 (ji x_1.1) h30 fun h31 => ?_)
      refine g_yes (h27.trans (congrArg V.bool hg11)) (g2 29 31 (jb (decide (e_16.2 ≥ x_1.1))) h29 h31 fun h32 => ?_)
      refine g2 27 32 (jb (decide (e_16.2 ≥ x_1.1))) (h27.trans (congrArg V.bool hg11)) h32 fun h33 => ?_
      refine gm h33 fun h34 => split_on (c := decide (e_16.2 ≥ x_1.1)) h (fun hg18 h => ?_) (fun hg18 h => ?_)
      · refine g_no (h34.trans (congrArg V.bool hg18)) ?_
        refine g_no (h34.trans (congrArg V.bool hg18)) ?_
        refine g_no (h34.trans (congrArg V.bool hg18)) ?_
        refine g_skip rfl ?_
        refine g_skip rfl ?_
        refine g_skip rfl ?_
        refine g_skip rfl ?_
        refine g_skip rfl ?_
        refine g_skip rfl ?_
        refine g_skip rfl ?_
        refine g_skip rfl ?_
        refine g_skip rfl ?_
        refine g_no (h34.trans (congrArg V.bool hg18)) ?_
        refine g2 34 47 (jb true) (h34.trans (congrArg V.bool hg18)) (rfl : (_ : V) = (.tup [])) fun h48 => ?_
        refine gz [(1, _), (2, _), (10, _), (11, _), (12, _), (48, _)] ⟨h1, h2, h10, h11, h12, h48⟩ ?_
        rintro s ⟨h1, h2, h10, h11, h12, h48⟩
        exact t_f63_j1 H x_1 x_9 (i_IsGraph_l1 F x_1 k) ih true _ ⟨h1, h2, h10, h11, h12, h48⟩ h
      refine g_yes (h34.trans (congrArg V.bool hg18)) (gm h3 fun h35 => ?_)
      refine g_yes (h34.trans (congrArg V.bool hg18)) (g1 35 (jb (decide (x_9 > 0))) h35 fun h36 => ?_)
      refine g_yes (h34.trans (congrArg V.bool hg18)) (gm h36 fun h37 => ?_)
      refine split_on (c := decide (x_9 > 0)) h (fun hg21 h => ?_) (fun hg21 h => ?_)
      · refine g_yes (h37.trans (congrArg V.bool hg21)) (g1 1 (.ref (.bx 1) 0 [1] (Enc.enc (x_1.2 : List (Int × Int)))) h1 fun h38 => ?_)
        refine g_yes (h37.trans (congrArg V.bool hg21)) (g1 38 (Enc.enc (x_1.2 : List (Int × Int))) h38 fun h39 => ?_)
        refine g_yes (h37.trans (congrArg V.bool hg21)) (gm h3 fun h40 => ?_)
        refine g_yes (h37.trans (congrArg V.bool hg21)) (g1 40 (ji (w64 (x_9 - 1))) h40 fun h41 => ?_)
        obtain ⟨e_20, E_e_20, h⟩ := bind_some h
        refine g_yes (h37.trans (congrArg V.bool hg21)) (gv (.ref .sh 0 [] (.agg [(ji e_20.1), (ji e_20.2)])) (ev_idx (t := .sh) (lo := 0) (xs := x_1.2) h39 h41 E_e_20 rfl rfl) fun h42 => ?_)
        refine g_yes (h37.trans (congrArg V.bool hg21)) (g1 42 (eL [e_20.1, e_20.2]) h42 fun h43 => ?_)
        refine g_yes (h37.trans (congrArg V.bool hg21)) (g1 4 (encO (.bx 4) (.of ([e_16.1, e_16.2] : List Int))) h4 fun h44 => ?_)
        obtain ⟨r_21, E_r_21, h⟩ := bind_some h
        refine g_yes (h37.trans (congrArg V.bool hg21)) (g_call (m := 0) (al := false) (r := (Enc.enc (r_21 : Int))) [Enc.enc ([e_20.1, e_20.2] : (List Int)), Enc.enc ([e_16.1, e_16.2] : (List Int))] (ta_cons (v := (eL [e_20.1, e_20.2])) h43 rfl (Enc.erase_enc ([e_20.1, e_20.2] : (List Int))) (ta_cons (v := (encO (.bx 4) (.of ([e_16.1, e_16.2] : List Int)))) h44 rfl (erase_encO (o := .of [e_16.1, e_16.2])) ta_nil)) (H.c94 _ _ _ E_r_21) H.g94 rfl rfl rfl rfl ?_)
        refine g_yes (h37.trans (congrArg V.bool hg21)) (g1 45 (jb (decide (r_21 ≥ 0))) (rfl : (_ : V) = (ji r_21)) fun h46 => ?_)
        refine g_yes (h34.trans (congrArg V.bool hg18)) (g2 37 46 (jb (decide (r_21 ≥ 0))) (h37.trans (congrArg V.bool hg21)) h46 fun h47 => ?_)
        refine g2 34 47 (jb (decide (r_21 ≥ 0))) (h34.trans (congrArg V.bool hg18)) h47 fun h48 => ?_
        refine gz [(1, _), (2, _), (10, _), (11, _), (12, _), (48, _)] ⟨h1, h2, h10, h11, h12, h48⟩ ?_
        rintro s ⟨h1, h2, h10, h11, h12, h48⟩
        exact t_f63_j1 H x_1 x_9 (i_IsGraph_l1 F x_1 k) ih (decide (r_21 ≥ 0)) _ ⟨h1, h2, h10, h11, h12, h48⟩ h
      refine g_no (h37.trans (congrArg V.bool hg21)) ?_
      refine g_no (h37.trans (congrArg V.bool hg21)) ?_
      refine g_no (h37.trans (congrArg V.bool hg21)) ?_
      refine g_no (h37.trans (congrArg V.bool hg21)) ?_
      refine g_no (h37.trans (congrArg V.bool hg21)) ?_
      refine g_no (h37.trans (congrArg V.bool hg21)) ?_
      refine g_no (h37.trans (congrArg V.bool hg21)) ?_
      refine g_no (h37.trans (congrArg V.bool hg21)) ?_
      refine g_no (h37.trans (congrArg V.bool hg21)) ?_
      refine g_yes (h34.trans (congrArg V.bool hg18)) (g2 37 46 (jb false) (h37.trans (congrArg V.bool hg21)) (rfl : (_ : V) = (.tup [])) fun h47 => ?_)
      refine g2 34 47 (jb false) (h34.trans (congrArg V.bool hg18)) h47 fun h48 => ?_
      refine gz [(1, _), (2, _), (10, _), (11, _), (12, _), (48, _)] ⟨h1, h2, h10, h11, h12, h48⟩ ?_
      rintro s ⟨h1, h2, h10, h11, h12, h48⟩
      exact t_f63_j1 H x_1 x_9 (i_IsGraph_l1 F x_1 k) ih false _ ⟨h1, h2, h10, h11, h12, h48⟩ h
    refine .exit (.esq (.elp (.ebk (.nsq (.seq (rg (g0 (jb true) fun h2 => ?_)))))))
    refine gq (.nsq (.ret ?_))
    have hr := Option.some.inj h
    subst hr
    exact rrA (res_tmp h2) rfl
def i_IsGraph (F : Nat) (x_1 : (Int × (List (Int × Int)))) : Option Bool :=
  (i_within F x_1.1 0 8).bind fun r_2 =>
  bif (!r_2) then
    some false
  else
    i_IsGraph_l1 F x_1 F 0
theorem t63 (H : H63 D σ F) (x_1 : (Int × (List (Int × Int)))) (s : Nat → V) (hs : Facts [(0, (.agg [(ji x_1.1), (Enc.enc (x_1.2 : List (Int × Int)))]))] s) (h : i_IsGraph F x_1 = some r) : Run D σ (R63 r) (.run A63 []) s := by
  unfold i_IsGraph at h
  have h0 := hs
  refine .seq (run_reg ?_)
  refine e_clr ?_
  refine ez [(0, _), (1, _)] ⟨(keep_clear (pk := [1]) h0 rfl (map_agg (maps_cons mi (maps_cons me maps_nil)))), (gone_clear (pk := [1]) (t := 1) rfl)⟩ ?_
  rintro s ⟨h0, h1⟩
  refine g_box (.agg [(ji x_1.1), (Enc.enc (x_1.2 : List (Int × Int)))]) (rd_of h0 rfl) h1 rfl ?_
  refine g0 (jb false) fun h2 => ?_
  refine gq (.nsq (.seq (.seq (rg (g1 1 (.ref (.bx 1) 0 [0] (ji x_1.1)) (rfl : (_ : V) = (.ref (.bx 1) 0 [] (.agg [(ji x_1.1), (Enc.enc (x_1.2 : List (Int × Int)))]))) fun h5 => ?_)))))
  refine g1 5 (ji x_1.1) h5 fun h6 => ?_
  obtain ⟨r_2, E_r_2, h⟩ := bind_some h
  refine g_call (m := 0) (al := false) (r := (Enc.enc (r_2 : Bool))) [Enc.enc (x_1.1 : Int), Enc.enc (0 : Int), Enc.enc (8 : Int)] (ta_cons (v := (ji x_1.1)) h6 rfl rfl (ta_cons (v := (ji 0)) rfl rfl rfl (ta_cons (v := (ji 8)) rfl rfl rfl ta_nil))) (H.c105 _ _ _ _ E_r_2) H.g105 rfl rfl rfl rfl ?_
  refine g1 7 (jb (!r_2)) (rfl : (_ : V) = (jb r_2)) fun h8 => ?_
  refine gq (.nsq (run_cond (t := (!r_2)) h8 h (fun h => ?_) (fun h => ?_)))
  · refine .seq (rg (g0 (jb false) fun h2 => ?_))
    refine gq (.nsq (.ret ?_))
    have hr := Option.some.inj h
    subst hr
    exact rrA (res_tmp h2) rfl
  refine .skip (.nsq (.seq (.seq (rg (g1 1 (.ref (.bx 1) 0 [1] (Enc.enc (x_1.2 : List (Int × Int)))) (rfl : (_ : V) = (.ref (.bx 1) 0 [] (.agg [(ji x_1.1), (Enc.enc (x_1.2 : List (Int × Int)))]))) fun h9 => ?_)))))
  refine g1 9 (Enc.enc (x_1.2 : List (Int × Int))) h9 fun h10 => ?_
  refine gv (ji (x_1.2.length : Int)) (ev_len (xs := x_1.2) h10) fun h11 => ?_
  refine g0 (ji 0) fun h12 => gq (.nsq (.block (.loop ?_)))
  exact t_f63_l1 H x_1 F 0 _ ⟨rfl, h2, h10, h11, h12⟩ h
end
def e63 (F : Nat) : Ent := ent 63 (fun (x : ((Int × (List (Int × Int))) × Unit)) => i_IsGraph F x.1) (fun (r : Bool) => (Enc.enc (r : Bool))) 0 false []
theorem p63 {F : Nat} {x0 : (Int × (List (Int × Int)))} {r : Bool} (h : i_IsGraph F x0 = some r) : (e63 F).den [Enc.enc x0] = some (Enc.enc (r : Bool)) := ent_put (x0, ()) h
theorem o63 {D : Den} {σ : Sig} {F : Nat} (hF : Fits2 Try.prog D σ) (H : H63 D σ F) : (e63 F).Ok Try.prog := by
  refine ok_of (f := 63) (show unk 63 = 63 from rfl) (fun args r h => ?_) ⟨Try.f63, Try.func63, rfl, rfl⟩
  obtain ⟨⟨x0, _⟩, y, rfl, hy, rfl⟩ := da_open h
  exact contract_run hF (by kernel_rfl) Try.func63 rfl c63 (show 1 ≤ Try.f63.ntmps by decide) (t63 H x0 _ rfl hy)
/- loop.example/g01109/impl.netOf -/
def A65_5 : AC := (.reg [] [((jv 28 (.fld (.t 3) 0 0))), ((jv 29 (.load .p (.t 28)))), ((jv 30 (.idxA (.t 5) (jn 1) 2 1))), ((jv 31 (.load .s (.t 30)))), ((jv 32 (.idx (.t 29) (.t 31) 1))), ((jv 33 (.load .s (.t 32)))), ((jv 34 (.idxA (.t 5) (jn 0) 2 1))), ((jv 35 (.load .s (.t 34)))), ((jv 36 (.bin .shl (jn 1) (.t 35)))), ((jv 37 (.bin .or (.t 33) (.t 36)))), ((jv 38 (.idx (.t 29) (.t 31) 1))), (.mk none none false (.store .s (.t 38) (.t 37)))] [])
def A65_4 : AC := (.seq (.reg [] [((jv 17 (.fld (.t 3) 0 0))), ((jv 18 (.load .p (.t 17)))), ((jv 19 (.idxA (.t 5) (jn 0) 2 1))), ((jv 20 (.load .s (.t 19)))), ((jv 21 (.idx (.t 18) (.t 20) 1))), ((jv 22 (.load .s (.t 21)))), ((jv 23 (.idxA (.t 5) (jn 1) 2 1))), ((jv 24 (.load .s (.t 23)))), ((jv 25 (.bin .shl (jn 1) (.t 24)))), ((jv 26 (.bin .or (.t 22) (.t 25)))), ((jv 27 (.idx (.t 18) (.t 20) 1))), (.mk none none false (.store .s (.t 27) (.t 26)))] []) A65_5)
def A65_6 : AC := (.reg [] [((jv 39 (.bin .add (.t 13) (jn 1)))), (jm 13 39)] [])
def A65_3 : AC := (.seq (.block 1 (.seq (.reg [.clr [5]] [((jv 15 (.idx (.t 11) (.t 13) 2))), ((jv 16 (.load (.ag [.s, .s]) (.t 15)))), (.mk (some 5) none false (.alloc (.agg [(.int .i64 (.ofNat 0)), (.int .i64 (.ofNat 0))]))), (.mk none none false (.store (.ag [.s, .s]) (.t 5) (.t 16)))] []) A65_4)) A65_6)
def A65_2 : AC := (.seq (.cond (.t 14) .skip (.exit 0)) A65_3)
def A65_1 : AC := (.seq (.reg [] [((jv 14 (.bin .lss (.t 13) (.t 12))))] []) A65_2)
def A65_7 : AC := (.seq (.reg [] [((jv 40 (.load (.ag [.p]) (.t 3)))), (.mk none none false (.store (.ag [.p]) (.t 2) (.t 40)))] []) .ret)
def A65_10 : AC := (.block 0 (.loop A65_1))
def A65_9 : AC := (.seq (.seq (.reg [] [((jv 10 (.fld (.t 1) 1 1))), ((jv 11 (.load .p (.t 10)))), ((jv 12 (.len (.t 11)))), ((jv 13 (.mov (jn 0))))] []) A65_10) A65_7)
def A65_8 : AC := (.seq (.reg [.clr [8, 3]] [((jv 6 (.fld (.t 1) 0 0))), ((jv 7 (.load .s (.t 6)))), (.mk (some 8) none false (.mk (.t 7) (.int .i64 (.ofNat 0)) (.int .i64 (.ofNat 0)))), ((jv 9 (.bld (.agg [(.sl .nl .s 0 [])]) [(0, 0, (.t 8))]))), (.mk (some 3) none false (.alloc (.agg [(.sl .nl .s 0 [])]))), (.mk none none false (.store (.ag [.p]) (.t 3) (.t 9)))] []) A65_9)
def A65 : AC := (.seq (.reg [.clr [1, 2]] [(.mk (some 1) none false (.box (.t 0))), (.mk (some 2) none false (.alloc (.agg [(.sl .nl .s 0 [])])))] []) A65_8)
def an65 : List An := [{ id := 0, pre := [.clr [1, 2]], ep := [], lin := [], sp := [] }, { id := 1, pre := [.clr [8, 3]], ep := [], lin := [], sp := [] }, { id := 4, pre := [.clr [5]], ep := [], lin := [], sp := [] }]
theorem c65 : cC Try.prog Try.f65.ntmps an65 (Try.f65.body.getD .skip) = some A65 := by kernel_rfl
structure H65 (D : Den) (σ : Sig) (F : Nat) : Prop where
  mk ::
abbrev R65 (r : (S1 (List Int))) : (Nat → V) → Prop := RR Try.prog [.cell 2 71] 0 false (Enc.enc (r : (S1 (List Int))))
section
variable {D : Den} {σ : Sig} {F : Nat} {r : (S1 (List Int))}
def i_netOf_l1 (F : Nat) (x_1 : (Int × (List (Int × Int))))  : Nat → (List Int) → Int → Option (S1 (List Int))
  | 0, _, _ => none
  | k + 1, x_10, x_11 =>
    bif decide (x_11 < (x_1.2.length : Int)) then
      (idx x_1.2 x_11).bind fun e_19 =>
      (idx x_10 e_19.1).bind fun e_20 =>
      (shlI .i64 1 e_19.2).bind fun q_21 =>
      (idx x_10 e_19.1).bind fun e_22 =>
      (idx (x_10.set e_19.1.toNat (ior .i64 e_20 q_21)) e_19.2).bind fun e_23 =>
      (shlI .i64 1 e_19.1).bind fun q_24 =>
      (idx (x_10.set e_19.1.toNat (ior .i64 e_20 q_21)) e_19.2).bind fun e_25 =>
      (i_netOf_l1 F x_1 k) ((x_10.set e_19.1.toNat (ior .i64 e_20 q_21)).set e_19.2.toNat (ior .i64 e_23 q_24)) (w64 (x_11 + 1))
    else
      some (S1.mk x_10)
theorem t_f65_l1 (H : H65 D σ F) (x_1 : (Int × (List (Int × Int))))  : ∀ (k : Nat) (x_10 : (List Int)) (x_11 : Int) (s : Nat → V), Facts [(2, (.ref (.bx 2) 0 [] (.agg [(.sl .nl (Enc.shp Int) 0 [])]))), (3, (.ref (.bx 3) 0 [] (.agg [(oI 8 [] (.of x_10))]))), (11, (Enc.enc (x_1.2 : List (Int × Int)))), (12, (ji (x_1.2.length : Int))), (13, (ji x_11))] s → i_netOf_l1 F x_1 k x_10 x_11 = some r → Run D σ (R65 r) (.run A65_1 [.lp A65_1, .bk 0, .sq A65_7]) s := by
  intro k
  induction k with
  | zero => intro x_10 x_11 s _ h; exact nomatch (h : (none : Option _) = some r)
  | succ k ih =>
    intro x_10 x_11 s hs h
    rw [i_netOf_l1] at h
    obtain ⟨h2, h3, h11, h12, h13⟩ := hs
    refine .seq (rg (g2 13 12 (jb (decide (x_11 < (x_1.2.length : Int)))) h13 h12 fun h14 => ?_))
    refine gq (.nsq (.seq (run_cond (t := decide (x_11 < (x_1.2.length : Int))) h14 h (fun h => ?_) (fun h => ?_))))
    · refine .skip (.nsq (.seq (.block (.seq (run_reg ?_)))))
      refine e_clr ?_
      refine ez [(2, _), (3, _), (5, _), (11, _), (12, _), (13, _)] ⟨(keep_clear (pk := [5]) h2 rfl (map_bx rfl (map_agg (maps_cons rfl maps_nil)))), (keep_clear (pk := [5]) h3 rfl (map_bx rfl (map_agg (maps_cons (map_encO (r := 8) (p := []) rfl rfl) maps_nil)))), (gone_clear (pk := [5]) (t := 5) rfl), (keep_clear (pk := [5]) h11 rfl me), (keep_clear (pk := [5]) h12 rfl mi), (keep_clear (pk := [5]) h13 rfl mi)⟩ ?_
      rintro s ⟨h2, h3, h5, h11, h12, h13⟩
      obtain ⟨e_19, E_e_19, h⟩ := bind_some h
      refine gv (.ref .sh 0 [] (.agg [(ji e_19.1), (ji e_19.2)])) (ev_idx (t := .sh) (lo := 0) (xs := x_1.2) h11 h13 E_e_19 rfl rfl) fun h15 => ?_
      refine g1 15 (.agg [(ji e_19.1), (ji e_19.2)]) h15 fun h16 => ?_
      refine g_alloc h5 ?_
      refine g_store (.agg [(ji e_19.1), (ji e_19.2)]) (rd_of rfl rfl) (rd_of h16 rfl) (by refine ⟨by decide, by decide, rfl, rfl, rfl, ?_⟩; first | rfl | simp [V.toks, V.tokss, Enc.toks_enc]) ?_
      refine gz [(2, (.ref (.bx 2) 0 [] (.agg [(.sl .nl (Enc.shp Int) 0 [])]))), (3, (.ref (.bx 3) 0 [] (.agg [(oI 8 [] (.of x_10))]))), (5, (.ref (.bx 5) 0 [] (.agg [(ji e_19.1), (ji e_19.2)]))), (11, (Enc.enc (x_1.2 : List (Int × Int)))), (12, (ji (x_1.2.length : Int))), (13, (ji x_11))] ⟨(keep_mut h2 (mut_ref_ne rfl rfl (mut_agg (muts_cons rfl rfl)))), (keep_mut h3 (mut_ref_ne rfl rfl (mut_agg (muts_cons (mut_own_ne rfl rfl) rfl)))), (keep_mut rfl rfl), (keep_mut h11 (Enc.mut_enc _ _ _ _ (x_1.2 : List (Int × Int)))), (keep_mut h12 rfl), (keep_mut h13 rfl)⟩ ?_
      rintro s ⟨h2, h3, h5, h11, h12, h13⟩
      refine .nsq (.seq (rg (g1 3 (.ref (.bx 3) 0 [0] (oI 8 [] (.of x_10))) h3 fun h17 => ?_)))
      refine g1 17 (oI 8 [] (.of x_10)) h17 fun h18 => ?_
      refine g1 5 (.ref (.bx 5) 0 [0] (ji e_19.1)) h5 fun h19 => ?_
      refine g1 19 (ji e_19.1) h19 fun h20 => ?_
      obtain ⟨e_20, E_e_20, h⟩ := bind_some h
      refine gv (.ref (.at 8 []) e_19.1.toNat [] (ji e_20)) (ev_idxO (o := (.of x_10)) h18 h20 E_e_20 rfl) fun h21 => ?_
      refine g1 21 (ji e_20) h21 fun h22 => ?_
      refine g1 5 (.ref (.bx 5) 0 [1] (ji e_19.2)) h5 fun h23 => ?_
      refine g1 23 (ji e_19.2) h23 fun h24 => ?_
      obtain ⟨q_21, E_q_21, h⟩ := bind_some h
      refine gv (ji q_21) (ev_shl rfl h24 E_q_21) fun h25 => ?_
      refine g2 22 25 (ji (ior .i64 e_20 q_21)) h22 h25 fun h26 => ?_
      obtain ⟨e_22, E_e_22, h⟩ := bind_some h
      refine gv (.ref (.at 8 []) e_19.1.toNat [] (ji e_22)) (ev_idxO (o := (.of x_10)) h18 h20 E_e_22 rfl) fun h27 => ?_
      refine g_store (ji (ior .i64 e_20 q_21)) (rd_of h27 rfl) (rd_of h26 rfl) (by refine ⟨by decide, by decide, rfl, rfl, rfl, ?_⟩; first | rfl | simp [V.toks, V.tokss, Enc.toks_enc]) ?_
      refine gz [(2, (.ref (.bx 2) 0 [] (.agg [(.sl .nl (Enc.shp Int) 0 [])]))), (3, (.ref (.bx 3) 0 [] (.agg [(oI 8 [] (.of (x_10.set e_19.1.toNat (ior .i64 e_20 q_21))))]))), (5, (.ref (.bx 5) 0 [] (.agg [(ji e_19.1), (ji e_19.2)]))), (11, (Enc.enc (x_1.2 : List (Int × Int)))), (12, (ji (x_1.2.length : Int))), (13, (ji x_11))] ⟨(keep_mut h2 (mut_ref_ne rfl rfl (mut_agg (muts_cons rfl rfl)))), (keep_mut h3 (mut_ref_ne rfl rfl (mut_agg (muts_cons mut_own rfl)))), (keep_mut h5 rfl), (keep_mut h11 (Enc.mut_enc _ _ _ _ (x_1.2 : List (Int × Int)))), (keep_mut h12 rfl), (keep_mut h13 rfl)⟩ ?_
      rintro s ⟨h2, h3, h5, h11, h12, h13⟩
      refine .nsq (rg (g1 3 (.ref (.bx 3) 0 [0] (oI 8 [] (.of (x_10.set e_19.1.toNat (ior .i64 e_20 q_21))))) h3 fun h28 => ?_))
      refine g1 28 (oI 8 [] (.of (x_10.set e_19.1.toNat (ior .i64 e_20 q_21)))) h28 fun h29 => ?_
      refine g1 5 (.ref (.bx 5) 0 [1] (ji e_19.2)) h5 fun h30 => ?_
      refine g1 30 (ji e_19.2) h30 fun h31 => ?_
      obtain ⟨e_23, E_e_23, h⟩ := bind_some h
      refine gv (.ref (.at 8 []) e_19.2.toNat [] (ji e_23)) (ev_idxO (o := (.of (x_10.set e_19.1.toNat (ior .i64 e_20 q_21)))) h29 h31 E_e_23 rfl) fun h32 => ?_
      refine g1 32 (ji e_23) h32 fun h33 => ?_
      refine g1 5 (.ref (.bx 5) 0 [0] (ji e_19.1)) h5 fun h34 => ?_
      refine g1 34 (ji e_19.1) h34 fun h35 => ?_
      obtain ⟨q_24, E_q_24, h⟩ := bind_some h
      refine gv (ji q_24) (ev_shl rfl h35 E_q_24) fun h36 => ?_
      refine g2 33 36 (ji (ior .i64 e_23 q_24)) h33 h36 fun h37 => ?_
      obtain ⟨e_25, E_e_25, h⟩ := bind_some h
      refine gv (.ref (.at 8 []) e_19.2.toNat [] (ji e_25)) (ev_idxO (o := (.of (x_10.set e_19.1.toNat (ior .i64 e_20 q_21)))) h29 h31 E_e_25 rfl) fun h38 => ?_
      refine g_store (ji (ior .i64 e_23 q_24)) (rd_of h38 rfl) (rd_of h37 rfl) (by refine ⟨by decide, by decide, rfl, rfl, rfl, ?_⟩; first | rfl | simp [V.toks, V.tokss, Enc.toks_enc]) ?_
      refine gz [(2, (.ref (.bx 2) 0 [] (.agg [(.sl .nl (Enc.shp Int) 0 [])]))), (3, (.ref (.bx 3) 0 [] (.agg [(oI 8 [] (.of ((x_10.set e_19.1.toNat (ior .i64 e_20 q_21)).set e_19.2.toNat (ior .i64 e_23 q_24))))]))), (11, (Enc.enc (x_1.2 : List (Int × Int)))), (12, (ji (x_1.2.length : Int))), (13, (ji x_11))] ⟨(keep_mut h2 (mut_ref_ne rfl rfl (mut_agg (muts_cons rfl rfl)))), (keep_mut h3 (mut_ref_ne rfl rfl (mut_agg (muts_cons mut_own rfl)))), (keep_mut h11 (Enc.mut_enc _ _ _ _ (x_1.2 : List (Int × Int)))), (keep_mut h12 rfl), (keep_mut h13 rfl)⟩ ?_
      rintro s ⟨h2, h3, h11, h12, h13⟩
      refine .nbk (.nsq (rg (g1 13 (ji (w64 (x_11 + 1))) h13 fun h39 => ?_)))
      refine gm h39 fun h13 => gq (.nlp ?_)
      exact ih ((x_10.set e_19.1.toNat (ior .i64 e_20 q_21)).set e_19.2.toNat (ior .i64 e_23 q_24)) (w64 (x_11 + 1)) _ ⟨h2, h3, h11, h12, h13⟩ h
    refine .exit (.esq (.elp (.ebk (.nsq (.seq (rg (g1 3 (.agg [(oI 8 [] (.of x_10))]) h3 fun h40 => ?_)))))))
    refine g_store (.agg [(oI 8 [] (.of x_10))]) (rd_of h2 rfl) (rd_of h40 rfl) (by refine ⟨by decide, by decide, rfl, rfl, rfl, ?_⟩; first | rfl | simp [V.toks, V.tokss, Enc.toks_enc]) ?_
    refine gz [(2, (.ref (.bx 2) 0 [] (.agg [(oI 8 [] (.of x_10))])))] (keep_mut h2 rfl) ?_
    rintro s h2
    refine .nsq (.ret ?_)
    have hr := Option.some.inj h
    subst hr
    exact rrA (res_cell h2 (by kernel_rfl)) (fin_retF (fin_agg (fins_cons (fin_own (o := .of x_10)) fins_nil)) (mine_agg (mines_cons (mine_own rfl) mines_nil)))
def i_netOf (F : Nat) (x_1 : (Int × (List (Int × Int)))) : Option (S1 (List Int)) :=
  (mkN x_1.1 (0 : Int)).bind fun mk_2 =>
  i_netOf_l1 F x_1 F mk_2 0
theorem t65 (H : H65 D σ F) (x_1 : (Int × (List (Int × Int)))) (s : Nat → V) (hs : Facts [(0, (.agg [(ji x_1.1), (Enc.enc (x_1.2 : List (Int × Int)))]))] s) (h : i_netOf F x_1 = some r) : Run D σ (R65 r) (.run A65 []) s := by
  unfold i_netOf at h
  have h0 := hs
  refine .seq (run_reg ?_)
  refine e_clr ?_
  refine ez [(0, _), (1, _), (2, _)] ⟨(keep_clear (pk := [1, 2]) h0 rfl (map_agg (maps_cons mi (maps_cons me maps_nil)))), (gone_clear (pk := [1, 2]) (t := 1) rfl), (gone_clear (pk := [1, 2]) (t := 2) rfl)⟩ ?_
  rintro s ⟨h0, h1, h2⟩
  refine g_box (.agg [(ji x_1.1), (Enc.enc (x_1.2 : List (Int × Int)))]) (rd_of h0 rfl) h1 rfl ?_
  refine g_alloc h2 ?_
  refine gq (.nsq (.seq (run_reg ?_)))
  refine e_clr ?_
  refine ez [(1, _), (2, _), (3, _), (8, _)] ⟨(keep_clear (pk := [8, 3]) rfl rfl (map_bx rfl (map_agg (maps_cons mi (maps_cons me maps_nil))))), (keep_clear (pk := [8, 3]) rfl rfl (map_bx rfl (map_agg (maps_cons rfl maps_nil)))), (gone_clear (pk := [8, 3]) (t := 3) rfl), (gone_clear (pk := [8, 3]) (t := 8) rfl)⟩ ?_
  rintro s ⟨h1, h2, h3, h8⟩
  refine g1 1 (.ref (.bx 1) 0 [0] (ji x_1.1)) h1 fun h6 => ?_
  refine g1 6 (ji x_1.1) h6 fun h7 => ?_
  obtain ⟨mk_2, E_mk_2, h⟩ := bind_some h
  refine g_mk (0 : Int) h7 rfl h8 E_mk_2 ?_
  refine g1 8 (.agg [(oI 8 [] (.of mk_2))]) (rfl : (_ : V) = (oI 8 [] (.of mk_2))) fun h9 => ?_
  refine g_alloc h3 ?_
  refine g_store (.agg [(oI 8 [] (.of mk_2))]) (rd_of rfl rfl) (rd_of h9 rfl) (by refine ⟨by decide, by decide, rfl, rfl, rfl, ?_⟩; first | rfl | simp [V.toks, V.tokss, Enc.toks_enc]) ?_
  refine gz [(1, (.ref (.bx 1) 0 [] (.agg [(ji x_1.1), (Enc.enc (x_1.2 : List (Int × Int)))]))), (2, (.ref (.bx 2) 0 [] (.agg [(.sl .nl (Enc.shp Int) 0 [])]))), (3, (.ref (.bx 3) 0 [] (.agg [(oI 8 [] (.of mk_2))])))] ⟨(keep_mut h1 (mut_ref_ne rfl rfl (mut_agg (muts_cons rfl (muts_cons (Enc.mut_enc _ _ _ _ (x_1.2 : List (Int × Int))) rfl))))), (keep_mut h2 (mut_ref_ne rfl rfl (mut_agg (muts_cons rfl rfl)))), (keep_mut rfl rfl)⟩ ?_
  rintro s ⟨h1, h2, h3⟩
  refine .nsq (.seq (.seq (rg (g1 1 (.ref (.bx 1) 0 [1] (Enc.enc (x_1.2 : List (Int × Int)))) h1 fun h10 => ?_))))
  refine g1 10 (Enc.enc (x_1.2 : List (Int × Int))) h10 fun h11 => ?_
  refine gv (ji (x_1.2.length : Int)) (ev_len (xs := x_1.2) h11) fun h12 => ?_
  refine g0 (ji 0) fun h13 => gq (.nsq (.block (.loop ?_)))
  exact t_f65_l1 H x_1 F mk_2 0 _ ⟨h2, h3, h11, h12, h13⟩ h
end
def e65 (F : Nat) : Ent := ent 65 (fun (x : ((Int × (List (Int × Int))) × Unit)) => i_netOf F x.1) (fun (r : (S1 (List Int))) => (Enc.enc (r : (S1 (List Int))))) 0 false []
theorem p65 {F : Nat} {x0 : (Int × (List (Int × Int)))} {r : (S1 (List Int))} (h : i_netOf F x0 = some r) : (e65 F).den [Enc.enc x0] = some (Enc.enc (r : (S1 (List Int)))) := ent_put (x0, ()) h
theorem o65 {D : Den} {σ : Sig} {F : Nat} (hF : Fits2 Try.prog D σ) (H : H65 D σ F) : (e65 F).Ok Try.prog := by
  refine ok_of (f := 65) (show unk 65 = 65 from rfl) (fun args r h => ?_) ⟨Try.f65, Try.func65, rfl, rfl⟩
  obtain ⟨⟨x0, _⟩, y, rfl, hy, rfl⟩ := da_open h
  exact contract_run hF (by kernel_rfl) Try.func65 rfl c65 (show 1 ≤ Try.f65.ntmps by decide) (t65 H x0 _ rfl hy)
/- loop.example/g01109/impl.allWithin -/
def A124_5 : AC := (.cond (.t 19) (.seq (.reg [] [((jv 6 (.mov (.k (.bool false)))))] []) .ret) .skip)
def A124_4 : AC := (.seq (.reg [] [(jm 15 8), (jm 16 1), (jm 17 2), (.mk (some 18) none false (.call (.k (.fn 105 [] [])) [(.t 15), (.t 16), (.t 17)])), ((jv 19 (.un .not (.t 18))))] []) A124_5)
def A124_6 : AC := (.reg [] [((jv 20 (.bin .add (.t 11) (jn 1)))), (jm 11 20)] [])
def A124_3 : AC := (.seq (.block 1 (.seq (.reg [] [((jv 13 (.idx (.t 9) (.t 11) 1))), ((jv 14 (.load .s (.t 13)))), (jm 8 14)] []) A124_4)) A124_6)
def A124_2 : AC := (.seq (.cond (.t 12) .skip (.exit 0)) A124_3)
def A124_1 : AC := (.seq (.reg [] [((jv 12 (.bin .lss (.t 11) (.t 10))))] []) A124_2)
def A124_7 : AC := (.seq (.reg [] [((jv 6 (.mov (.k (.bool true)))))] []) .ret)
def A124_9 : AC := (.block 0 (.loop A124_1))
def A124_8 : AC := (.seq (.seq (.reg [] [(jm 9 0), ((jv 10 (.len (.t 9)))), ((jv 11 (.mov (jn 0))))] []) A124_9) A124_7)
def A124 : AC := (.seq (.reg [] [((jv 6 (.mov (.k (.bool false)))))] []) A124_8)
def an124 : List An := []
theorem c124 : cC Try.prog Try.f124.ntmps an124 (Try.f124.body.getD .skip) = some A124 := by kernel_rfl
structure H124 (D : Den) (σ : Sig) (F : Nat) : Prop where
  c105 : ∀ (x0 : Int) (x1 : Int) (x2 : Int) r, i_within F x0 x1 x2 = some r → D 105 [Enc.enc x0, Enc.enc x1, Enc.enc x2] = some (Enc.enc (r : Bool))
  g105 : σ 105 = some (0, false)
abbrev R124 (r : Bool) : (Nat → V) → Prop := RR Try.prog [.tmp 6] 0 false (Enc.enc (r : Bool))
section
variable {D : Den} {σ : Sig} {F : Nat} {r : Bool}
def i_allWithin_l1 (F : Nat) (x_2 : Int) (x_3 : Int) (x_1 : (List Int))  : Nat → Int → Option Bool
  | 0, _ => none
  | k + 1, x_6 =>
    bif decide (x_6 < (x_1.length : Int)) then
      (idx x_1 x_6).bind fun e_9 =>
      (i_within F e_9 x_2 x_3).bind fun r_10 =>
      bif (!r_10) then
        some false
      else
        (i_allWithin_l1 F x_2 x_3 x_1 k) (w64 (x_6 + 1))
    else
      some true
theorem t_f124_l1 (H : H124 D σ F) (x_2 : Int) (x_3 : Int) (x_1 : (List Int))  : ∀ (k : Nat) (x_6 : Int) (s : Nat → V), Facts [(1, (ji x_2)), (2, (ji x_3)), (6, (jb false)), (9, (eL x_1)), (10, (ji (x_1.length : Int))), (11, (ji x_6))] s → i_allWithin_l1 F x_2 x_3 x_1 k x_6 = some r → Run D σ (R124 r) (.run A124_1 [.lp A124_1, .bk 0, .sq A124_7]) s := by
  intro k
  induction k with
  | zero => intro x_6 s _ h; exact nomatch (h : (none : Option _) = some r)
  | succ k ih =>
    intro x_6 s hs h
    rw [i_allWithin_l1] at h
    obtain ⟨h1, h2, h6, h9, h10, h11⟩ := hs
    refine .seq (rg (g2 11 10 (jb (decide (x_6 < (x_1.length : Int)))) h11 h10 fun h12 => ?_))
    refine gq (.nsq (.seq (run_cond (t := decide (x_6 < (x_1.length : Int))) h12 h (fun h => ?_) (fun h => ?_))))
    · refine .skip (.nsq (.seq (.block (.seq (rg ?_)))))
      obtain ⟨e_9, E_e_9, h⟩ := bind_some h
      refine gv (.ref .sh 0 [] (ji e_9)) (ev_idx (t := .sh) (lo := 0) (xs := x_1) h9 h11 E_e_9 rfl rfl) fun h13 => ?_
      refine g1 13 (ji e_9) h13 fun h14 => ?_
      refine gm h14 fun h8 => gq (.nsq (.seq (rg (gm h8 fun h15 => gm h1 fun h16 => gm h2 fun h17 => ?_))))
      obtain ⟨r_10, E_r_10, h⟩ := bind_some h
      refine g_call (m := 0) (al := false) (r := (Enc.enc (r_10 : Bool))) [Enc.enc (e_9 : Int), Enc.enc (x_2 : Int), Enc.enc (x_3 : Int)] (ta_cons (v := (ji e_9)) h15 rfl rfl (ta_cons (v := (ji x_2)) h16 rfl rfl (ta_cons (v := (ji x_3)) h17 rfl rfl ta_nil))) (H.c105 _ _ _ _ E_r_10) H.g105 rfl rfl rfl rfl ?_
      refine g1 18 (jb (!r_10)) (rfl : (_ : V) = (jb r_10)) fun h19 => ?_
      refine gq (.nsq (run_cond (t := (!r_10)) h19 h (fun h => ?_) (fun h => ?_)))
      · refine .seq (rg (g0 (jb false) fun h6 => ?_))
        refine gq (.nsq (.ret ?_))
        have hr := Option.some.inj h
        subst hr
        exact rrA (res_tmp h6) rfl
      refine .skip (.nbk (.nsq (rg (g1 11 (ji (w64 (x_6 + 1))) h11 fun h20 => ?_))))
      refine gm h20 fun h11 => gq (.nlp ?_)
      exact ih (w64 (x_6 + 1)) _ ⟨h1, h2, h6, h9, h10, h11⟩ h
    refine .exit (.esq (.elp (.ebk (.nsq (.seq (rg (g0 (jb true) fun h6 => ?_)))))))
    refine gq (.nsq (.ret ?_))
    have hr := Option.some.inj h
    subst hr
    exact rrA (res_tmp h6) rfl
def i_allWithin (F : Nat) (x_1 : (List Int)) (x_2 : Int) (x_3 : Int) : Option Bool :=
  i_allWithin_l1 F x_2 x_3 x_1 F 0
theorem t124 (H : H124 D σ F) (x_1 : (List Int)) (x_2 : Int) (x_3 : Int) (s : Nat → V) (hs : Facts [(0, (eL x_1)), (1, (ji x_2)), (2, (ji x_3))] s) (h : i_allWithin F x_1 x_2 x_3 = some r) : Run D σ (R124 r) (.run A124 []) s := by
  unfold i_allWithin at h
  obtain ⟨h0, h1, h2⟩ := hs
  refine .seq (rg (g0 (jb false) fun h6 => ?_))
  refine gq (.nsq (.seq (.seq (rg (gm h0 fun h9 => gv (ji (x_1.length : Int)) (ev_len (xs := x_1) h9) fun h10 => ?_)))))
  refine g0 (ji 0) fun h11 => gq (.nsq (.block (.loop ?_)))
  exact t_f124_l1 H x_2 x_3 x_1 F 0 _ ⟨h1, h2, h6, h9, h10, h11⟩ h
end
def e124 (F : Nat) : Ent := ent 124 (fun (x : ((List Int) × Int × Int × Unit)) => i_allWithin F x.1 x.2.1 x.2.2.1) (fun (r : Bool) => (Enc.enc (r : Bool))) 0 false []
theorem p124 {F : Nat} {x0 : (List Int)} {x1 : Int} {x2 : Int} {r : Bool} (h : i_allWithin F x0 x1 x2 = some r) : (e124 F).den [Enc.enc x0, Enc.enc x1, Enc.enc x2] = some (Enc.enc (r : Bool)) := ent_put (x0, x1, x2, ()) h
theorem o124 {D : Den} {σ : Sig} {F : Nat} (hF : Fits2 Try.prog D σ) (H : H124 D σ F) : (e124 F).Ok Try.prog := by
  refine ok_of (f := 124) (show unk 124 = 124 from rfl) (fun args r h => ?_) ⟨Try.f124, Try.func124, rfl, rfl⟩
  obtain ⟨⟨x0, x1, x2, _⟩, y, rfl, hy, rfl⟩ := da_open h
  exact contract_run hF (by kernel_rfl) Try.func124 rfl c124 (show 3 ≤ Try.f124.ntmps by decide) (t124 H x0 x1 x2 _ ⟨rfl, rfl, rfl⟩ hy)
/- loop.example/g01109/impl.hasNodes -/
def A171_1 : AC := (.seq (.reg [] [((jv 5 (.load (.ag [.s, .p]) (.t 2)))), (.mk (some 6) none false (.call (.k (.fn 63 [] [])) [(.t 5)])), (jm 7 6), ((jg 8 7 true (.mov (.t 1)))), ((jg 9 7 true (.fld (.t 2) 0 0))), ((jg 10 7 true (.load .s (.t 9)))), ((jg 11 7 true (.bin .sub (.t 10) (jn 1)))), (.mk (some 12) (some (7, true)) false (.call (.k (.fn 124 [] [])) [(.t 8), (jn 0), (.t 11)])), ((jv 13 (.pick (.t 7) (.t 12) (.k (.bool false))))), (jm 4 13)] []) .ret)
def A171 : AC := (.seq (.reg [.clr [2]] [(.mk (some 2) none false (.box (.t 0))), ((jv 4 (.mov (.k (.bool false)))))] []) A171_1)
def an171 : List An := [{ id := 0, pre := [.clr [2]], ep := [], lin := [], sp := [] }]
theorem c171 : cC Try.prog Try.f171.ntmps an171 (Try.f171.body.getD .skip) = some A171 := by kernel_rfl
structure H171 (D : Den) (σ : Sig) (F : Nat) : Prop where
  c63 : ∀ (x0 : (Int × (List (Int × Int)))) r, i_IsGraph F x0 = some r → D 63 [Enc.enc x0] = some (Enc.enc (r : Bool))
  g63 : σ 63 = some (0, false)
  c124 : ∀ (x0 : (List Int)) (x1 : Int) (x2 : Int) r, i_allWithin F x0 x1 x2 = some r → D 124 [Enc.enc x0, Enc.enc x1, Enc.enc x2] = some (Enc.enc (r : Bool))
  g124 : σ 124 = some (0, false)
abbrev R171 (r : Bool) : (Nat → V) → Prop := RR Try.prog [.tmp 4] 0 false (Enc.enc (r : Bool))
section
variable {D : Den} {σ : Sig} {F : Nat} {r : Bool}
def i_hasNodes (F : Nat) (x_1 : (Int × (List (Int × Int)))) (x_2 : (List Int)) : Option Bool :=
  (i_IsGraph F x_1).bind fun r_3 =>
  bif r_3 then
    (i_allWithin F x_2 0 (w64 (x_1.1 - 1))).bind fun r_4 =>
    some r_4
  else
    some false
theorem t171 (H : H171 D σ F) (x_1 : (Int × (List (Int × Int)))) (x_2 : (List Int)) (s : Nat → V) (hs : Facts [(0, (.agg [(ji x_1.1), (Enc.enc (x_1.2 : List (Int × Int)))])), (1, (eL x_2))] s) (h : i_hasNodes F x_1 x_2 = some r) : Run D σ (R171 r) (.run A171 []) s := by
  unfold i_hasNodes at h
  obtain ⟨h0, h1⟩ := hs
  refine .seq (run_reg ?_)
  refine e_clr ?_
  refine ez [(0, _), (1, _), (2, _)] ⟨(keep_clear (pk := [2]) h0 rfl (map_agg (maps_cons mi (maps_cons me maps_nil)))), (keep_clear (pk := [2]) h1 rfl me), (gone_clear (pk := [2]) (t := 2) rfl)⟩ ?_
  rintro s ⟨h0, h1, h2⟩
  refine g_box (.agg [(ji x_1.1), (Enc.enc (x_1.2 : List (Int × Int)))]) (rd_of h0 rfl) h2 rfl ?_
  refine g0 (jb false) fun h4 => ?_
  refine gq (.nsq (.seq (rg (g1 2 (.agg [(ji x_1.1), (Enc.enc (x_1.2 : List (Int × Int)))]) (rfl : (_ : V) = (.ref (.bx 2) 0 [] (.agg [(ji x_1.1), (Enc.enc (x_1.2 : List (Int × Int)))]))) fun h5 => ?_))))
  obtain ⟨r_3, E_r_3, h⟩ := bind_some h
  refine g_call (m := 0) (al := false) (r := (Enc.enc (r_3 : Bool))) [Enc.enc (x_1 : (Int × (List (Int × Int))))] (ta_cons (v := (.agg [(ji x_1.1), (Enc.enc (x_1.2 : List (Int × Int)))])) h5 rfl (Enc.erase_enc (x_1 : (Int × (List (Int × Int))))) ta_nil) (H.c63 _ _ E_r_3) H.g63 rfl rfl rfl rfl ?_
  refine gm (rfl : (_ : V) = (jb r_3)) fun h7 => ?_
  refine split_on (c := r_3) h (fun hg3 h => ?_) (fun hg3 h => ?_)
  · refine g_yes (h7.trans (congrArg V.bool hg3)) (gm h1 fun h8 => ?_)
    refine g_yes (h7.trans (congrArg V.bool hg3)) (g1 2 (.ref (.bx 2) 0 [0] (ji x_1.1)) (rfl : (_ : V) = (.ref (.bx 2) 0 [] (.agg [(ji x_1.1), (Enc.enc (x_1.2 : List (Int × Int)))]))) fun h9 => ?_)
    refine g_yes (h7.trans (congrArg V.bool hg3)) (g1 9 (ji x_1.1) h9 fun h10 => ?_)
    refine g_yes (h7.trans (congrArg V.bool hg3)) (g1 10 (ji (w64 (x_1.1 - 1))) h10 fun h11 => ?_)
    obtain ⟨r_4, E_r_4, h⟩ := bind_some h
    refine g_yes (h7.trans (congrArg V.bool hg3)) (g_call (m := 0) (al := false) (r := (Enc.enc (r_4 : Bool))) [Enc.enc (x_2 : (List Int)), Enc.enc (0 : Int), Enc.enc (w64 (x_1.1 - 1) : Int)] (ta_cons (v := (eL x_2)) h8 rfl (Enc.erase_enc (x_2 : (List Int))) (ta_cons (v := (ji 0)) rfl rfl rfl (ta_cons (v := (ji (w64 (x_1.1 - 1)))) h11 rfl rfl ta_nil))) (H.c124 _ _ _ _ E_r_4) H.g124 rfl rfl rfl rfl ?_)
    refine g2 7 12 (jb r_4) (h7.trans (congrArg V.bool hg3)) (rfl : (_ : V) = (jb r_4)) fun h13 => ?_
    refine gm h13 fun h4 => gq (.nsq (.ret ?_))
    have hr := Option.some.inj h
    subst hr
    exact rrA (res_tmp h4) rfl
  refine g_no (h7.trans (congrArg V.bool hg3)) ?_
  refine g_no (h7.trans (congrArg V.bool hg3)) ?_
  refine g_no (h7.trans (congrArg V.bool hg3)) ?_
  refine g_no (h7.trans (congrArg V.bool hg3)) ?_
  refine g_no (h7.trans (congrArg V.bool hg3)) ?_
  refine g2 7 12 (jb false) (h7.trans (congrArg V.bool hg3)) (rfl : (_ : V) = (.tup [])) fun h13 => ?_
  refine gm h13 fun h4 => gq (.nsq (.ret ?_))
  have hr := Option.some.inj h
  subst hr
  exact rrA (res_tmp h4) rfl
end
def e171 (F : Nat) : Ent := ent 171 (fun (x : ((Int × (List (Int × Int))) × (List Int) × Unit)) => i_hasNodes F x.1 x.2.1) (fun (r : Bool) => (Enc.enc (r : Bool))) 0 false []
theorem p171 {F : Nat} {x0 : (Int × (List (Int × Int)))} {x1 : (List Int)} {r : Bool} (h : i_hasNodes F x0 x1 = some r) : (e171 F).den [Enc.enc x0, Enc.enc x1] = some (Enc.enc (r : Bool)) := ent_put (x0, x1, ()) h
theorem o171 {D : Den} {σ : Sig} {F : Nat} (hF : Fits2 Try.prog D σ) (H : H171 D σ F) : (e171 F).Ok Try.prog := by
  refine ok_of (f := 171) (show unk 171 = 171 from rfl) (fun args r h => ?_) ⟨Try.f171, Try.func171, rfl, rfl⟩
  obtain ⟨⟨x0, x1, _⟩, y, rfl, hy, rfl⟩ := da_open h
  exact contract_run hF (by kernel_rfl) Try.func171 rfl c171 (show 2 ≤ Try.f171.ntmps by decide) (t171 H x0 x1 _ ⟨rfl, rfl⟩ hy)
/- loop.example/g01109/impl.increasing -/
def A172_2 : AC := (.cond (.t 7) .skip (.exit 0))
def A172_4 : AC := (.cond (.t 19) (.seq (.reg [] [((jv 2 (.mov (.k (.bool false)))))] []) .ret) .skip)
def A172_5 : AC := (.reg [] [(jm 8 3), ((jv 9 (.bin .add (.t 8) (jn 1)))), (jm 3 9)] [])
def A172_3 : AC := (.seq (.block 1 (.seq (.reg [] [(jm 10 0), (jm 11 3), ((jv 12 (.bin .sub (.t 11) (jn 1)))), ((jv 13 (.idx (.t 10) (.t 12) 1))), ((jv 14 (.load .s (.t 13)))), (jm 15 0), (jm 16 3), ((jv 17 (.idx (.t 15) (.t 16) 1))), ((jv 18 (.load .s (.t 17)))), ((jv 19 (.bin .geq (.t 14) (.t 18))))] []) A172_4)) A172_5)
def A172_1 : AC := (.seq (.seq (.reg [] [(jm 4 3), (jm 5 0), ((jv 6 (.len (.t 5)))), ((jv 7 (.bin .lss (.t 4) (.t 6))))] []) A172_2) A172_3)
def A172_6 : AC := (.seq (.reg [] [((jv 2 (.mov (.k (.bool true)))))] []) .ret)
def A172_8 : AC := (.block 0 (.loop A172_1))
def A172_7 : AC := (.seq (.seq (.reg [] [((jv 3 (.mov (jn 1))))] []) A172_8) A172_6)
def A172 : AC := (.seq (.reg [] [((jv 2 (.mov (.k (.bool false)))))] []) A172_7)
def an172 : List An := []
theorem c172 : cC Try.prog Try.f172.ntmps an172 (Try.f172.body.getD .skip) = some A172 := by kernel_rfl
structure H172 (D : Den) (σ : Sig) (F : Nat) : Prop where
  mk ::
abbrev R172 (r : Bool) : (Nat → V) → Prop := RR Try.prog [.tmp 2] 0 false (Enc.enc (r : Bool))
section
variable {D : Den} {σ : Sig} {F : Nat} {r : Bool}
def i_increasing_l1 (F : Nat) (x_1 : (List Int))  : Nat → Int → Option Bool
  | 0, _ => none
  | k + 1, x_4 =>
    bif decide (x_4 < (x_1.length : Int)) then
      (idx x_1 (w64 (x_4 - 1))).bind fun e_7 =>
      (idx x_1 x_4).bind fun e_8 =>
      bif decide (e_7 ≥ e_8) then
        some false
      else
        (i_increasing_l1 F x_1 k) (w64 (x_4 + 1))
    else
      some true
theorem t_f172_l1 (H : H172 D σ F) (x_1 : (List Int))  : ∀ (k : Nat) (x_4 : Int) (s : Nat → V), Facts [(0, (eL x_1)), (2, (jb false)), (3, (ji x_4))] s → i_increasing_l1 F x_1 k x_4 = some r → Run D σ (R172 r) (.run A172_1 [.lp A172_1, .bk 0, .sq A172_6]) s := by
  intro k
  induction k with
  | zero => intro x_4 s _ h; exact nomatch (h : (none : Option _) = some r)
  | succ k ih =>
    intro x_4 s hs h
    rw [i_increasing_l1] at h
    obtain ⟨h0, h2, h3⟩ := hs
    refine .seq (.seq (rg (gm h3 fun h4 => gm h0 fun h5 => gv (ji (x_1.length : Int)) (ev_len (xs := x_1) h5) fun h6 => ?_)))
    refine g2 4 6 (jb (decide (x_4 < (x_1.length : Int)))) h4 h6 fun h7 => ?_
    refine gq (.nsq (run_cond (t := decide (x_4 < (x_1.length : Int))) h7 h (fun h => ?_) (fun h => ?_)))
    · refine .skip (.nsq (.seq (.block (.seq (rg (gm h0 fun h10 => gm h3 fun h11 => g1 11 (ji (w64 (x_4 - 1))) h11 fun h12 => ?_))))))
      obtain ⟨e_7, E_e_7, h⟩ := bind_some h
      refine gv (.ref .sh 0 [] (ji e_7)) (ev_idx (t := .sh) (lo := 0) (xs := x_1) h10 h12 E_e_7 rfl rfl) fun h13 => ?_
      refine g1 13 (ji e_7) h13 fun h14 => ?_
      refine gm h0 fun h15 => gm h3 fun h16 => ?_
      obtain ⟨e_8, E_e_8, h⟩ := bind_some h
      refine gv (.ref .sh 0 [] (ji e_8)) (ev_idx (t := .sh) (lo := 0) (xs := x_1) h15 h16 E_e_8 rfl rfl) fun h17 => ?_
      refine g1 17 (ji e_8) h17 fun h18 => ?_
      refine g2 14 18 (jb (decide (e_7 ≥ e_8))) h14 h18 fun h19 => ?_
      refine gq (.nsq (run_cond (t := decide (e_7 ≥ e_8)) h19 h (fun h => ?_) (fun h => ?_)))
      · refine .seq (rg (g0 (jb false) fun h2 => ?_))
        refine gq (.nsq (.ret ?_))
        have hr := Option.some.inj h
        subst hr
        exact rrA (res_tmp h2) rfl
      refine .skip (.nbk (.nsq (rg (gm h3 fun h8 => g1 8 (ji (w64 (x_4 + 1))) h8 fun h9 => ?_))))
      refine gm h9 fun h3 => gq (.nlp ?_)
      exact ih (w64 (x_4 + 1)) _ ⟨h0, h2, h3⟩ h
    refine .exit (.esq (.elp (.ebk (.nsq (.seq (rg (g0 (jb true) fun h2 => ?_)))))))
    refine gq (.nsq (.ret ?_))
    have hr := Option.some.inj h
    subst hr
    exact rrA (res_tmp h2) rfl
def i_increasing (F : Nat) (x_1 : (List Int)) : Option Bool :=
  i_increasing_l1 F x_1 F 1
theorem t172 (H : H172 D σ F) (x_1 : (List Int)) (s : Nat → V) (hs : Facts [(0, (eL x_1))] s) (h : i_increasing F x_1 = some r) : Run D σ (R172 r) (.run A172 []) s := by
  unfold i_increasing at h
  have h0 := hs
  refine .seq (rg (g0 (jb false) fun h2 => ?_))
  refine gq (.nsq (.seq (.seq (rg (g0 (ji 1) fun h3 => gq (.nsq (.block (.loop ?_))))))))
  exact t_f172_l1 H x_1 F 1 _ ⟨h0, h2, h3⟩ h
end
def e172 (F : Nat) : Ent := ent 172 (fun (x : ((List Int) × Unit)) => i_increasing F x.1) (fun (r : Bool) => (Enc.enc (r : Bool))) 0 false []
theorem p172 {F : Nat} {x0 : (List Int)} {r : Bool} (h : i_increasing F x0 = some r) : (e172 F).den [Enc.enc x0] = some (Enc.enc (r : Bool)) := ent_put (x0, ()) h
theorem o172 {D : Den} {σ : Sig} {F : Nat} (hF : Fits2 Try.prog D σ) (H : H172 D σ F) : (e172 F).Ok Try.prog := by
  refine ok_of (f := 172) (show unk 172 = 172 from rfl) (fun args r h => ?_) ⟨Try.f172, Try.func172, rfl, rfl⟩
  obtain ⟨⟨x0, _⟩, y, rfl, hy, rfl⟩ := da_open h
  exact contract_run hF (by kernel_rfl) Try.func172 rfl c172 (show 1 ≤ Try.f172.ntmps by decide) (t172 H x0 _ rfl hy)
/- loop.example/g01109/impl.isSet -/
def A135_1 : AC := (.seq (.reg [] [((jv 5 (.load (.ag [.s, .p]) (.t 2)))), (jm 6 1), (.mk (some 7) none false (.call (.k (.fn 171 [] [])) [(.t 5), (.t 6)])), (jm 8 7), ((jg 9 8 true (.mov (.t 1)))), (.mk (some 10) (some (8, true)) false (.call (.k (.fn 172 [] [])) [(.t 9)])), ((jv 11 (.pick (.t 8) (.t 10) (.k (.bool false))))), (jm 4 11)] []) .ret)
def A135 : AC := (.seq (.reg [.clr [2]] [(.mk (some 2) none false (.box (.t 0))), ((jv 4 (.mov (.k (.bool false)))))] []) A135_1)
def an135 : List An := [{ id := 0, pre := [.clr [2]], ep := [], lin := [], sp := [] }]
theorem c135 : cC Try.prog Try.f135.ntmps an135 (Try.f135.body.getD .skip) = some A135 := by kernel_rfl
structure H135 (D : Den) (σ : Sig) (F : Nat) : Prop where
  c171 : ∀ (x0 : (Int × (List (Int × Int)))) (x1 : (List Int)) r, i_hasNodes F x0 x1 = some r → D 171 [Enc.enc x0, Enc.enc x1] = some (Enc.enc (r : Bool))
  g171 : σ 171 = some (0, false)
  c172 : ∀ (x0 : (List Int)) r, i_increasing F x0 = some r → D 172 [Enc.enc x0] = some (Enc.enc (r : Bool))
  g172 : σ 172 = some (0, false)
abbrev R135 (r : Bool) : (Nat → V) → Prop := RR Try.prog [.tmp 4] 0 false (Enc.enc (r : Bool))
section
variable {D : Den} {σ : Sig} {F : Nat} {r : Bool}
def i_isSet (F : Nat) (x_1 : (Int × (List (Int × Int)))) (x_2 : (List Int)) : Option Bool :=
  (i_hasNodes F x_1 x_2).bind fun r_3 =>
  bif r_3 then
    (i_increasing F x_2).bind fun r_4 =>
    some r_4
  else
    some false
theorem t135 (H : H135 D σ F) (x_1 : (Int × (List (Int × Int)))) (x_2 : (List Int)) (s : Nat → V) (hs : Facts [(0, (.agg [(ji x_1.1), (Enc.enc (x_1.2 : List (Int × Int)))])), (1, (eL x_2))] s) (h : i_isSet F x_1 x_2 = some r) : Run D σ (R135 r) (.run A135 []) s := by
  unfold i_isSet at h
  obtain ⟨h0, h1⟩ := hs
  refine .seq (run_reg ?_)
  refine e_clr ?_
  refine ez [(0, _), (1, _), (2, _)] ⟨(keep_clear (pk := [2]) h0 rfl (map_agg (maps_cons mi (maps_cons me maps_nil)))), (keep_clear (pk := [2]) h1 rfl me), (gone_clear (pk := [2]) (t := 2) rfl)⟩ ?_
  rintro s ⟨h0, h1, h2⟩
  refine g_box (.agg [(ji x_1.1), (Enc.enc (x_1.2 : List (Int × Int)))]) (rd_of h0 rfl) h2 rfl ?_
  refine g0 (jb false) fun h4 => ?_
  refine gq (.nsq (.seq (rg (g1 2 (.agg [(ji x_1.1), (Enc.enc (x_1.2 : List (Int × Int)))]) (rfl : (_ : V) = (.ref (.bx 2) 0 [] (.agg [(ji x_1.1), (Enc.enc (x_1.2 : List (Int × Int)))]))) fun h5 => ?_))))
  refine gm h1 fun h6 => ?_
  obtain ⟨r_3, E_r_3, h⟩ := bind_some h
  refine g_call (m := 0) (al := false) (r := (Enc.enc (r_3 : Bool))) [Enc.enc (x_1 : (Int × (List (Int × Int)))), Enc.enc (x_2 : (List Int))] (ta_cons (v := (.agg [(ji x_1.1), (Enc.enc (x_1.2 : List (Int × Int)))])) h5 rfl (Enc.erase_enc (x_1 : (Int × (List (Int × Int))))) (ta_cons (v := (eL x_2)) h6 rfl (Enc.erase_enc (x_2 : (List Int))) ta_nil)) (H.c171 _ _ _ E_r_3) H.g171 rfl rfl rfl rfl ?_
  refine gm (rfl : (_ : V) = (jb r_3)) fun h8 => ?_
  refine split_on (c := r_3) h (fun hg4 h => ?_) (fun hg4 h => ?_)
  · refine g_yes (h8.trans (congrArg V.bool hg4)) (gm h1 fun h9 => ?_)
    obtain ⟨r_4, E_r_4, h⟩ := bind_some h
    refine g_yes (h8.trans (congrArg V.bool hg4)) (g_call (m := 0) (al := false) (r := (Enc.enc (r_4 : Bool))) [Enc.enc (x_2 : (List Int))] (ta_cons (v := (eL x_2)) h9 rfl (Enc.erase_enc (x_2 : (List Int))) ta_nil) (H.c172 _ _ E_r_4) H.g172 rfl rfl rfl rfl ?_)
    refine g2 8 10 (jb r_4) (h8.trans (congrArg V.bool hg4)) (rfl : (_ : V) = (jb r_4)) fun h11 => ?_
    refine gm h11 fun h4 => gq (.nsq (.ret ?_))
    have hr := Option.some.inj h
    subst hr
    exact rrA (res_tmp h4) rfl
  refine g_no (h8.trans (congrArg V.bool hg4)) ?_
  refine g_no (h8.trans (congrArg V.bool hg4)) ?_
  refine g2 8 10 (jb false) (h8.trans (congrArg V.bool hg4)) (rfl : (_ : V) = (.tup [])) fun h11 => ?_
  refine gm h11 fun h4 => gq (.nsq (.ret ?_))
  have hr := Option.some.inj h
  subst hr
  exact rrA (res_tmp h4) rfl
end
def e135 (F : Nat) : Ent := ent 135 (fun (x : ((Int × (List (Int × Int))) × (List Int) × Unit)) => i_isSet F x.1 x.2.1) (fun (r : Bool) => (Enc.enc (r : Bool))) 0 false []
theorem p135 {F : Nat} {x0 : (Int × (List (Int × Int)))} {x1 : (List Int)} {r : Bool} (h : i_isSet F x0 x1 = some r) : (e135 F).den [Enc.enc x0, Enc.enc x1] = some (Enc.enc (r : Bool)) := ent_put (x0, x1, ()) h
theorem o135 {D : Den} {σ : Sig} {F : Nat} (hF : Fits2 Try.prog D σ) (H : H135 D σ F) : (e135 F).Ok Try.prog := by
  refine ok_of (f := 135) (show unk 135 = 135 from rfl) (fun args r h => ?_) ⟨Try.f135, Try.func135, rfl, rfl⟩
  obtain ⟨⟨x0, x1, _⟩, y, rfl, hy, rfl⟩ := da_open h
  exact contract_run hF (by kernel_rfl) Try.func135 rfl c135 (show 2 ≤ Try.f135.ntmps by decide) (t135 H x0 x1 _ ⟨rfl, rfl⟩ hy)
/- loop.example/g01109/impl.maskOf -/
def A93_4 : AC := (.reg [] [(jm 12 3), (jm 13 5), ((jv 14 (.bin .shl (jn 1) (.t 13)))), ((jv 15 (.bin .or (.t 12) (.t 14)))), (jm 3 15)] [])
def A93_5 : AC := (.reg [] [((jv 16 (.bin .add (.t 8) (jn 1)))), (jm 8 16)] [])
def A93_3 : AC := (.seq (.block 1 (.seq (.reg [] [((jv 10 (.idx (.t 6) (.t 8) 1))), ((jv 11 (.load .s (.t 10)))), (jm 5 11)] []) A93_4)) A93_5)
def A93_2 : AC := (.seq (.cond (.t 9) .skip (.exit 0)) A93_3)
def A93_1 : AC := (.seq (.reg [] [((jv 9 (.bin .lss (.t 8) (.t 7))))] []) A93_2)
def A93_6 : AC := (.seq (.reg [] [(jm 17 3), (jm 2 17)] []) .ret)
def A93_9 : AC := (.block 0 (.loop A93_1))
def A93_8 : AC := (.seq (.seq (.reg [] [(jm 6 0), ((jv 7 (.len (.t 6)))), ((jv 8 (.mov (jn 0))))] []) A93_9) A93_6)
def A93_7 : AC := (.seq (.reg [] [((jv 3 (.mov (jn 0))))] []) A93_8)
def A93 : AC := (.seq (.reg [] [((jv 2 (.mov (jn 0))))] []) A93_7)
def an93 : List An := []
theorem c93 : cC Try.prog Try.f93.ntmps an93 (Try.f93.body.getD .skip) = some A93 := by kernel_rfl
structure H93 (D : Den) (σ : Sig) (F : Nat) : Prop where
  mk ::
abbrev R93 (r : Int) : (Nat → V) → Prop := RR Try.prog [.tmp 2] 0 false (Enc.enc (r : Int))
section
variable {D : Den} {σ : Sig} {F : Nat} {r : Int}
def i_maskOf_l1 (F : Nat) (x_1 : (List Int))  : Nat → Int → Int → Option Int
  | 0, _, _ => none
  | k + 1, x_4, x_5 =>
    bif decide (x_5 < (x_1.length : Int)) then
      (idx x_1 x_5).bind fun e_8 =>
      (shlI .i64 1 e_8).bind fun q_9 =>
      (i_maskOf_l1 F x_1 k) (ior .i64 x_4 q_9) (w64 (x_5 + 1))
    else
      some x_4
theorem t_f93_l1 (H : H93 D σ F) (x_1 : (List Int))  : ∀ (k : Nat) (x_4 : Int) (x_5 : Int) (s : Nat → V), Facts [(2, (ji 0)), (3, (ji x_4)), (6, (eL x_1)), (7, (ji (x_1.length : Int))), (8, (ji x_5))] s → i_maskOf_l1 F x_1 k x_4 x_5 = some r → Run D σ (R93 r) (.run A93_1 [.lp A93_1, .bk 0, .sq A93_6]) s := by
  intro k
  induction k with
  | zero => intro x_4 x_5 s _ h; exact nomatch (h : (none : Option _) = some r)
  | succ k ih =>
    intro x_4 x_5 s hs h
    rw [i_maskOf_l1] at h
    obtain ⟨h2, h3, h6, h7, h8⟩ := hs
    refine .seq (rg (g2 8 7 (jb (decide (x_5 < (x_1.length : Int)))) h8 h7 fun h9 => ?_))
    refine gq (.nsq (.seq (run_cond (t := decide (x_5 < (x_1.length : Int))) h9 h (fun h => ?_) (fun h => ?_))))
    · refine .skip (.nsq (.seq (.block (.seq (rg ?_)))))
      obtain ⟨e_8, E_e_8, h⟩ := bind_some h
      refine gv (.ref .sh 0 [] (ji e_8)) (ev_idx (t := .sh) (lo := 0) (xs := x_1) h6 h8 E_e_8 rfl rfl) fun h10 => ?_
      refine g1 10 (ji e_8) h10 fun h11 => ?_
      refine gm h11 fun h5 => gq (.nsq (rg (gm h3 fun h12 => gm h5 fun h13 => ?_)))
      obtain ⟨q_9, E_q_9, h⟩ := bind_some h
      refine gv (ji q_9) (ev_shl rfl h13 E_q_9) fun h14 => ?_
      refine g2 12 14 (ji (ior .i64 x_4 q_9)) h12 h14 fun h15 => ?_
      refine gm h15 fun h3 => gq (.nbk (.nsq (rg (g1 8 (ji (w64 (x_5 + 1))) h8 fun h16 => ?_))))
      refine gm h16 fun h8 => gq (.nlp ?_)
      exact ih (ior .i64 x_4 q_9) (w64 (x_5 + 1)) _ ⟨h2, h3, h6, h7, h8⟩ h
    refine .exit (.esq (.elp (.ebk (.nsq (.seq (rg (gm h3 fun h17 => gm h17 fun h2 => gq (.nsq (.ret ?_)))))))))
    have hr := Option.some.inj h
    subst hr
    exact rrA (res_tmp h2) rfl
def i_maskOf (F : Nat) (x_1 : (List Int)) : Option Int :=
  i_maskOf_l1 F x_1 F 0 0
theorem t93 (H : H93 D σ F) (x_1 : (List Int)) (s : Nat → V) (hs : Facts [(0, (eL x_1))] s) (h : i_maskOf F x_1 = some r) : Run D σ (R93 r) (.run A93 []) s := by
  unfold i_maskOf at h
  have h0 := hs
  refine .seq (rg (g0 (ji 0) fun h2 => gq (.nsq (.seq (rg (g0 (ji 0) fun h3 => gq (.nsq (.seq (.seq (rg (gm h0 fun h6 => gv (ji (x_1.length : Int)) (ev_len (xs := x_1) h6) fun h7 => ?_)))))))))))
  refine g0 (ji 0) fun h8 => gq (.nsq (.block (.loop ?_)))
  exact t_f93_l1 H x_1 F 0 0 _ ⟨h2, h3, h6, h7, h8⟩ h
end
def e93 (F : Nat) : Ent := ent 93 (fun (x : ((List Int) × Unit)) => i_maskOf F x.1) (fun (r : Int) => (Enc.enc (r : Int))) 0 false []
theorem p93 {F : Nat} {x0 : (List Int)} {r : Int} (h : i_maskOf F x0 = some r) : (e93 F).den [Enc.enc x0] = some (Enc.enc (r : Int)) := ent_put (x0, ()) h
theorem o93 {D : Den} {σ : Sig} {F : Nat} (hF : Fits2 Try.prog D σ) (H : H93 D σ F) : (e93 F).Ok Try.prog := by
  refine ok_of (f := 93) (show unk 93 = 93 from rfl) (fun args r h => ?_) ⟨Try.f93, Try.func93, rfl, rfl⟩
  obtain ⟨⟨x0, _⟩, y, rfl, hy, rfl⟩ := da_open h
  exact contract_run hF (by kernel_rfl) Try.func93 rfl c93 (show 1 ≤ Try.f93.ntmps by decide) (t93 H x0 _ rfl hy)
/- (loop.example/g01109/impl.net).around -/
def A175_5 : AC := (.cond (.t 21) (.reg [] [(jm 22 5), (jm 23 7), ((jv 24 (.bin .or (.t 22) (.t 23)))), (jm 5 24)] []) .skip)
def A175_4 : AC := (.seq (.reg [] [(jm 17 1), (jm 18 6), ((jv 19 (.bin .shr (.t 17) (.t 18)))), ((jv 20 (.bin .and (.t 19) (jn 1)))), ((jv 21 (.bin .eql (.t 20) (jn 1))))] []) A175_5)
def A175_6 : AC := (.reg [] [((jv 25 (.bin .add (.t 12) (jn 1)))), (jm 12 25)] [])
def A175_3 : AC := (.seq (.block 1 (.seq (.reg [] [(jm 14 12), ((jv 15 (.idx (.t 10) (.t 12) 1))), ((jv 16 (.load .s (.t 15)))), (jm 6 14), (jm 7 16)] []) A175_4)) A175_6)
def A175_2 : AC := (.seq (.cond (.t 13) .skip (.exit 0)) A175_3)
def A175_1 : AC := (.seq (.reg [] [((jv 13 (.bin .lss (.t 12) (.t 11))))] []) A175_2)
def A175_7 : AC := (.seq (.reg [] [(jm 26 5), (jm 4 26)] []) .ret)
def A175_10 : AC := (.block 0 (.loop A175_1))
def A175_9 : AC := (.seq (.seq (.reg [] [((jv 9 (.fld (.t 2) 0 0))), ((jv 10 (.load .p (.t 9)))), ((jv 11 (.len (.t 10)))), ((jv 12 (.mov (jn 0))))] []) A175_10) A175_7)
def A175_8 : AC := (.seq (.reg [] [(jm 8 1), (jm 5 8)] []) A175_9)
def A175 : AC := (.seq (.reg [.clr [2]] [(.mk (some 2) none false (.box (.t 0))), ((jv 4 (.mov (jn 0))))] []) A175_8)
def an175 : List An := [{ id := 0, pre := [.clr [2]], ep := [], lin := [], sp := [] }]
theorem c175 : cC Try.prog Try.f175.ntmps an175 (Try.f175.body.getD .skip) = some A175 := by kernel_rfl
structure H175 (D : Den) (σ : Sig) (F : Nat) : Prop where
  mk ::
abbrev R175 (r : Int) : (Nat → V) → Prop := RR Try.prog [.tmp 4] 0 false (Enc.enc (r : Int))
section
variable {D : Den} {σ : Sig} {F : Nat} {r : Int}
def i_net_around_j1 (F : Nat) (x_2 : Int) (x_1 : (S1 (List Int))) (x_7 : Int) (c1 : Int → Int → Option Int) (x_13 : Int) : Option Int :=
  c1 x_13 (w64 (x_7 + 1))
theorem t_f175_j1 (H : H175 D σ F) (x_2 : Int) (x_1 : (S1 (List Int))) (x_7 : Int) (c1 : Int → Int → Option Int) (Hc1 : ∀ (x_6 : Int) (x_7 : Int) (s : Nat → V), Facts [(1, (ji x_2)), (4, (ji 0)), (5, (ji x_6)), (10, (eL x_1.a)), (11, (ji (x_1.a.length : Int))), (12, (ji x_7))] s → c1 x_6 x_7 = some r → Run D σ (R175 r) (.run A175_1 [.lp A175_1, .bk 0, .sq A175_7]) s) (x_13 : Int) (s : Nat → V) (hs : Facts [(1, (ji x_2)), (4, (ji 0)), (5, (ji x_13)), (10, (eL x_1.a)), (11, (ji (x_1.a.length : Int))), (12, (ji x_7))] s) (h : i_net_around_j1 F x_2 x_1 x_7 c1 x_13 = some r) : Run D σ (R175 r) (.nrm [.bk 1, .sq A175_6, .lp A175_1, .bk 0, .sq A175_7]) s := by
  unfold i_net_around_j1 at h
  obtain ⟨h1, h4, h5, h10, h11, h12⟩ := hs
  refine .nbk (.nsq (rg (g1 12 (ji (w64 (x_7 + 1))) h12 fun h25 => ?_)))
  refine gm h25 fun h12 => gq (.nlp ?_)
  exact Hc1 x_13 (w64 (x_7 + 1)) _ ⟨h1, h4, h5, h10, h11, h12⟩ h
def i_net_around_l1 (F : Nat) (x_2 : Int) (x_1 : (S1 (List Int)))  : Nat → Int → Int → Option Int
  | 0, _, _ => none
  | k + 1, x_6, x_7 =>
    bif decide (x_7 < (x_1.a.length : Int)) then
      (idx x_1.a x_7).bind fun e_11 =>
      (shrI .i64 x_2 x_7).bind fun q_12 =>
      bif ((iand .i64 q_12 1) == 1) then
        i_net_around_j1 F x_2 x_1 x_7 (i_net_around_l1 F x_2 x_1 k) (ior .i64 x_6 e_11)
      else
        i_net_around_j1 F x_2 x_1 x_7 (i_net_around_l1 F x_2 x_1 k) x_6
    else
      some x_6
theorem t_f175_l1 (H : H175 D σ F) (x_2 : Int) (x_1 : (S1 (List Int)))  : ∀ (k : Nat) (x_6 : Int) (x_7 : Int) (s : Nat → V), Facts [(1, (ji x_2)), (4, (ji 0)), (5, (ji x_6)), (10, (eL x_1.a)), (11, (ji (x_1.a.length : Int))), (12, (ji x_7))] s → i_net_around_l1 F x_2 x_1 k x_6 x_7 = some r → Run D σ (R175 r) (.run A175_1 [.lp A175_1, .bk 0, .sq A175_7]) s := by
  intro k
  induction k with
  | zero => intro x_6 x_7 s _ h; exact nomatch (h : (none : Option _) = some r)
  | succ k ih =>
    intro x_6 x_7 s hs h
    rw [i_net_around_l1] at h
    obtain ⟨h1, h4, h5, h10, h11, h12⟩ := hs
    refine .seq (rg (g2 12 11 (jb (decide (x_7 < (x_1.a.length : Int)))) h12 h11 fun h13 => ?_))
    refine gq (.nsq (.seq (run_cond (t := decide (x_7 < (x_1.a.length : Int))) h13 h (fun h => ?_) (fun h => ?_))))
    · refine .skip (.nsq (.seq (.block (.seq (rg (gm h12 fun h14 => ?_))))))
      obtain ⟨e_11, E_e_11, h⟩ := bind_some h
      refine gv (.ref .sh 0 [] (ji e_11)) (ev_idx (t := .sh) (lo := 0) (xs := x_1.a) h10 h12 E_e_11 rfl rfl) fun h15 => ?_
      refine g1 15 (ji e_11) h15 fun h16 => ?_
      refine gm h14 fun h6 => gm h16 fun h7 => gq (.nsq (.seq (rg (gm h1 fun h17 => gm h6 fun h18 => ?_))))
      obtain ⟨q_12, E_q_12, h⟩ := bind_some h
      refine gv (ji q_12) (ev_shr h17 h18 E_q_12) fun h19 => ?_
      refine g1 19 (ji (iand .i64 q_12 1)) h19 fun h20 => ?_
      refine g1 20 (jb ((iand .i64 q_12 1) == 1)) h20 fun h21 => ?_
      refine gq (.nsq (run_cond (t := ((iand .i64 q_12 1) == 1)) h21 h (fun h => ?_) (fun h => ?_)))
      · refine rg (gm h5 fun h22 => gm h7 fun h23 => g2 22 23 (ji (ior .i64 x_6 e_11)) h22 h23 fun h24 => ?_)
        refine gm h24 fun h5 => gq ?_
        exact t_f175_j1 H x_2 x_1 x_7 (i_net_around_l1 F x_2 x_1 k) ih (ior .i64 x_6 e_11) _ ⟨h1, h4, h5, h10, h11, h12⟩ h
      refine .skip ?_
      exact t_f175_j1 H x_2 x_1 x_7 (i_net_around_l1 F x_2 x_1 k) ih x_6 _ ⟨h1, h4, h5, h10, h11, h12⟩ h
    refine .exit (.esq (.elp (.ebk (.nsq (.seq (rg (gm h5 fun h26 => gm h26 fun h4 => gq (.nsq (.ret ?_)))))))))
    have hr := Option.some.inj h
    subst hr
    exact rrA (res_tmp h4) rfl
def i_net_around (F : Nat) (x_1 : (S1 (List Int))) (x_2 : Int) : Option Int :=
  i_net_around_l1 F x_2 x_1 F x_2 0
theorem t175 (H : H175 D σ F) (x_1 : (S1 (List Int))) (x_2 : Int) (s : Nat → V) (hs : Facts [(0, (.agg [(eL x_1.a)])), (1, (ji x_2))] s) (h : i_net_around F x_1 x_2 = some r) : Run D σ (R175 r) (.run A175 []) s := by
  unfold i_net_around at h
  obtain ⟨h0, h1⟩ := hs
  refine .seq (run_reg ?_)
  refine e_clr ?_
  refine ez [(0, _), (1, _), (2, _)] ⟨(keep_clear (pk := [2]) h0 rfl (map_agg (maps_cons me maps_nil))), (keep_clear (pk := [2]) h1 rfl mi), (gone_clear (pk := [2]) (t := 2) rfl)⟩ ?_
  rintro s ⟨h0, h1, h2⟩
  refine g_box (.agg [(eL x_1.a)]) (rd_of h0 rfl) h2 rfl ?_
  refine g0 (ji 0) fun h4 => gq (.nsq (.seq (rg (gm h1 fun h8 => gm h8 fun h5 => gq (.nsq (.seq (.seq (rg (g1 2 (.ref (.bx 2) 0 [0] (eL x_1.a)) (rfl : (_ : V) = (.ref (.bx 2) 0 [] (.agg [(eL x_1.a)]))) fun h9 => ?_)))))))))
  refine g1 9 (eL x_1.a) h9 fun h10 => ?_
  refine gv (ji (x_1.a.length : Int)) (ev_len (xs := x_1.a) h10) fun h11 => ?_
  refine g0 (ji 0) fun h12 => gq (.nsq (.block (.loop ?_)))
  exact t_f175_l1 H x_2 x_1 F x_2 0 _ ⟨h1, h4, h5, h10, h11, h12⟩ h
end
def e175 (F : Nat) : Ent := ent 175 (fun (x : ((S1 (List Int)) × Int × Unit)) => i_net_around F x.1 x.2.1) (fun (r : Int) => (Enc.enc (r : Int))) 0 false []
theorem p175 {F : Nat} {x0 : (S1 (List Int))} {x1 : Int} {r : Int} (h : i_net_around F x0 x1 = some r) : (e175 F).den [Enc.enc x0, Enc.enc x1] = some (Enc.enc (r : Int)) := ent_put (x0, x1, ()) h
theorem o175 {D : Den} {σ : Sig} {F : Nat} (hF : Fits2 Try.prog D σ) (H : H175 D σ F) : (e175 F).Ok Try.prog := by
  refine ok_of (f := 175) (show unk 175 = 175 from rfl) (fun args r h => ?_) ⟨Try.f175, Try.func175, rfl, rfl⟩
  obtain ⟨⟨x0, x1, _⟩, y, rfl, hy, rfl⟩ := da_open h
  exact contract_run hF (by kernel_rfl) Try.func175 rfl c175 (show 2 ≤ Try.f175.ntmps by decide) (t175 H x0 x1 _ ⟨rfl, rfl⟩ hy)
/- (loop.example/g01109/impl.net).parts -/
def A142_2 : AC := (.cond (.t 9) .skip (.exit 0))
def A142_7 : AC := (.cond (.t 21) (.exit 2) .skip)
def A142_8 : AC := (.reg [] [(jm 22 7), (jm 6 22)] [])
def A142_6 : AC := (.seq (.seq (.reg [] [(jm 19 7), (jm 20 6), ((jv 21 (.bin .eql (.t 19) (.t 20))))] []) A142_7) A142_8)
def A142_5 : AC := (.block 3 (.seq (.reg [] [((jv 14 (.load (.ag [.p]) (.t 2)))), (jm 15 6), (.mk (some 16) none false (.call (.k (.fn 175 [] [])) [(.t 14), (.t 15)])), (jm 17 1), ((jv 18 (.bin .and (.t 16) (.t 17)))), (jm 7 18)] []) A142_6))
def A142_10 : AC := (.reg [] [(jm 27 1), (jm 28 6), ((jv 29 (.bin .andNot (.t 27) (.t 28)))), (jm 1 29)] [])
def A142_9 : AC := (.seq (.reg [.clr [25, 26]] [(jm 23 5), (jm 24 6), (.mk (some 25) none false (.lit (.int .i64 (.ofNat 0)) 1 [(0, 0, (.t 24))])), (.mk (some 26) none false (.app .s (.t 23) (.t 25))), (jm 5 26)] [.home 26 5]) A142_10)
def A142_4 : AC := (.seq (.block 2 (.loop A142_5)) A142_9)
def A142_3 : AC := (.block 1 (.seq (.reg [] [(jm 10 1), (jm 11 1), ((jv 12 (.un .neg (.t 11)))), ((jv 13 (.bin .and (.t 10) (.t 12)))), (jm 6 13)] []) A142_4))
def A142_1 : AC := (.seq (.seq (.reg [] [(jm 8 1), ((jv 9 (.bin .neq (.t 8) (jn 0))))] []) A142_2) A142_3)
def A142_11 : AC := (.seq (.reg [] [(jm 30 5), (jm 4 30)] [.home 5 4]) .ret)
def A142_13 : AC := (.seq (.block 0 (.loop A142_1)) A142_11)
def A142_12 : AC := (.seq (.reg [] [((jv 5 (.mov (.k (.sl .nl .s 0 [])))))] []) A142_13)
def A142 : AC := (.seq (.reg [.clr [2]] [(.mk (some 2) none false (.box (.t 0))), ((jv 4 (.mov (.k (.sl .nl .s 0 [])))))] []) A142_12)
def an142 : List An := [{ id := 0, pre := [.clr [2]], ep := [], lin := [], sp := [] }, { id := 7, pre := [.clr [25, 26]], ep := [.home 26 5], lin := [], sp := [] }, { id := 9, pre := [], ep := [.home 5 4], lin := [], sp := [] }]
theorem c142 : cC Try.prog Try.f142.ntmps an142 (Try.f142.body.getD .skip) = some A142 := by kernel_rfl
structure H142 (D : Den) (σ : Sig) (F : Nat) : Prop where
  c175 : ∀ (x0 : (S1 (List Int))) (x1 : Int) r, i_net_around F x0 x1 = some r → D 175 [Enc.enc x0, Enc.enc x1] = some (Enc.enc (r : Int))
  g175 : σ 175 = some (0, false)
abbrev R142 (r : (List Int)) : (Nat → V) → Prop := RR Try.prog [.tmp 4] 0 false (Enc.enc (r : (List Int)))
section
variable {D : Den} {σ : Sig} {F : Nat} {r : (List Int)}
def i_net_parts_l1 (F : Nat) (x_8 : Int) (x_1 : (S1 (List Int))) (x_9 : (NL Int)) (c1 : Int → (NL Int) → Option (List Int)) : Nat → Int → Option (List Int)
  | 0, _ => none
  | k + 1, x_16 =>
    (i_net_around F x_1 x_16).bind fun r_18 =>
    bif ((iand .i64 r_18 x_8) == x_16) then
      (appL x_9.list [x_16]).bind fun ap_19 =>
      c1 (iandNot .i64 x_8 x_16) (.of ap_19)
    else
      (i_net_parts_l1 F x_8 x_1 x_9 c1 k) (iand .i64 r_18 x_8)
theorem t_f142_l1 (H : H142 D σ F) (x_8 : Int) (x_1 : (S1 (List Int))) (x_9 : (NL Int)) (c1 : Int → (NL Int) → Option (List Int)) (Hc1 : ∀ (x_8 : Int) (x_9 : (NL Int)) (s : Nat → V), Facts [(1, (ji x_8)), (2, (.ref (.bx 2) 0 [] (.agg [(eL x_1.a)]))), (4, (.sl .nl (Enc.shp Int) 0 [])), (5, (oI 5 [] x_9))] s → c1 x_8 x_9 = some r → Run D σ (R142 r) (.run A142_1 [.lp A142_1, .bk 0, .sq A142_11]) s) : ∀ (k : Nat) (x_16 : Int) (s : Nat → V), Facts [(1, (ji x_8)), (2, (.ref (.bx 2) 0 [] (.agg [(eL x_1.a)]))), (4, (.sl .nl (Enc.shp Int) 0 [])), (5, (oI 5 [] x_9)), (6, (ji x_16))] s → i_net_parts_l1 F x_8 x_1 x_9 c1 k x_16 = some r → Run D σ (R142 r) (.run A142_5 [.lp A142_5, .bk 2, .sq A142_9, .bk 1, .lp A142_1, .bk 0, .sq A142_11]) s := by
  intro k
  induction k with
  | zero => intro x_16 s _ h; exact nomatch (h : (none : Option _) = some r)
  | succ k ih =>
    intro x_16 s hs h
    rw [i_net_parts_l1] at h
    obtain ⟨h1, h2, h4, h5, h6⟩ := hs
    refine .block (.seq (rg (g1 2 (.agg [(eL x_1.a)]) h2 fun h14 => ?_)))
    refine gm h6 fun h15 => ?_
    obtain ⟨r_18, E_r_18, h⟩ := bind_some h
    refine g_call (m := 0) (al := false) (r := (Enc.enc (r_18 : Int))) [Enc.enc (x_1 : (S1 (List Int))), Enc.enc (x_16 : Int)] (ta_cons (v := (.agg [(eL x_1.a)])) h14 rfl (Enc.erase_enc (x_1 : (S1 (List Int)))) (ta_cons (v := (ji x_16)) h15 rfl rfl ta_nil)) (H.c175 _ _ _ E_r_18) H.g175 rfl rfl rfl rfl ?_
    refine gm h1 fun h17 => g2 16 17 (ji (iand .i64 r_18 x_8)) (rfl : (_ : V) = (ji r_18)) h17 fun h18 => ?_
    refine gm h18 fun h7 => gq (.nsq (.seq (.seq (rg (gm h7 fun h19 => gm h6 fun h20 => g2 19 20 (jb ((iand .i64 r_18 x_8) == x_16)) h19 h20 fun h21 => ?_)))))
    refine gq (.nsq (run_cond (t := ((iand .i64 r_18 x_8) == x_16)) h21 h (fun h => ?_) (fun h => ?_)))
    · refine .exit (.esq (.ebn (by decide) (.elp (.ebk (.nsq (.seq (run_reg ?_)))))))
      refine e_clr ?_
      refine ez [(1, _), (2, _), (4, _), (5, _), (6, _), (25, _), (26, _)] ⟨(keep_clear (pk := [25, 26]) h1 rfl mi), (keep_clear (pk := [25, 26]) h2 rfl (map_bx rfl (map_agg (maps_cons me maps_nil)))), (keep_clear (pk := [25, 26]) h4 rfl rfl), (keep_clear (pk := [25, 26]) h5 rfl (map_encO (r := 5) (p := []) rfl rfl)), (keep_clear (pk := [25, 26]) h6 rfl mi), (gone_clear (pk := [25, 26]) (t := 25) rfl), (gone_clear (pk := [25, 26]) (t := 26) rfl)⟩ ?_
      rintro s ⟨h1, h2, h4, h5, h6, h25, h26⟩
      refine gv (oI 5 [] x_9) (ev_mov h5 ok_encO) fun h23 => ?_
      refine gm h6 fun h24 => g_litL [(24, (ji x_16))] [Enc.enc (x_16 : Int)] h24 rfl rfl h25 ?_
      obtain ⟨ap_19, E_ap_19, h⟩ := bind_some h
      refine g_app (q := 5) (p := []) (o := (x_9 : NL Int)) (ys := ([x_16] : List Int)) (t2 := (.at 25 [])) (lo2 := 0) h23 rfl rfl h26 (appN_L (o := (x_9 : NL Int)) E_ap_19 (by split <;> simp)) (fun s_9 ha_9 => ?_)
      refine gm (rfl : (_ : V) = (oI 26 [] (.of ap_19))) fun h5 => ?_
      refine g_end ?_
      refine e_home (r := 26) (x := 5) (v := _) h5 rfl (fun s_10 hg_10 => ?_)
      refine ez [(1, (ji x_8)), (2, (.ref (.bx 2) 0 [] (.agg [(eL x_1.a)]))), (4, (.sl .nl (Enc.shp Int) 0 [])), (5, (oI 5 [] (.of ap_19))), (6, (ji x_16))] ⟨(hg_10 1 _ _ (show s_9 1 = (ji x_8) from keep_app ha_9 h1 mi) mi), (hg_10 2 _ _ (show s_9 2 = (.ref (.bx 2) 0 [] (.agg [(eL x_1.a)])) from keep_app ha_9 h2 (map_bx rfl (map_agg (maps_cons me maps_nil)))) (map_bx rfl (map_agg (maps_cons me maps_nil)))), (hg_10 4 _ (.sl .nl (Enc.shp Int) 0 []) (show s_9 4 = (.sl .nl (Enc.shp Int) 0 []) from keep_app ha_9 h4 rfl) rfl), (hg_10 5 _ _ h5 (map_encO (r := 26) (p := []) rfl rfl)), (hg_10 6 _ _ (show s_9 6 = (ji x_16) from keep_app ha_9 h6 mi) mi)⟩ ?_
      rintro s ⟨h1, h2, h4, h5, h6⟩
      refine .nsq (rg (gm h1 fun h27 => gm h6 fun h28 => g2 27 28 (ji (iandNot .i64 x_8 x_16)) h27 h28 fun h29 => ?_))
      refine gm h29 fun h1 => gq (.nbk (.nlp ?_))
      exact Hc1 (iandNot .i64 x_8 x_16) (.of ap_19) _ ⟨h1, h2, h4, h5⟩ h
    refine .skip (.nsq (rg (gm h7 fun h22 => gm h22 fun h6 => gq (.nbk (.nlp ?_)))))
    exact ih (iand .i64 r_18 x_8) _ ⟨h1, h2, h4, h5, h6⟩ h
def i_net_parts_l2 (F : Nat) (x_1 : (S1 (List Int)))  : Nat → Int → (NL Int) → Option (List Int)
  | 0, _, _ => none
  | k + 1, x_8, x_9 =>
    bif (x_8 != 0) then
      i_net_parts_l1 F x_8 x_1 x_9 (i_net_parts_l2 F x_1 k) F (iand .i64 x_8 (w64 (0 - x_8)))
    else
      some x_9.list
theorem t_f142_l2 (H : H142 D σ F) (x_1 : (S1 (List Int)))  : ∀ (k : Nat) (x_8 : Int) (x_9 : (NL Int)) (s : Nat → V), Facts [(1, (ji x_8)), (2, (.ref (.bx 2) 0 [] (.agg [(eL x_1.a)]))), (4, (.sl .nl (Enc.shp Int) 0 [])), (5, (oI 5 [] x_9))] s → i_net_parts_l2 F x_1 k x_8 x_9 = some r → Run D σ (R142 r) (.run A142_1 [.lp A142_1, .bk 0, .sq A142_11]) s := by
  intro k
  induction k with
  | zero => intro x_8 x_9 s _ h; exact nomatch (h : (none : Option _) = some r)
  | succ k ih =>
    intro x_8 x_9 s hs h
    rw [i_net_parts_l2] at h
    obtain ⟨h1, h2, h4, h5⟩ := hs
    refine .seq (.seq (rg (gm h1 fun h8 => g1 8 (jb (x_8 != 0)) h8 fun h9 => ?_)))
    refine gq (.nsq (run_cond (t := (x_8 != 0)) h9 h (fun h => ?_) (fun h => ?_)))
    · refine .skip (.nsq (.block (.seq (rg (gm h1 fun h10 => gm h1 fun h11 => g1 11 (ji (w64 (0 - x_8))) h11 fun h12 => ?_)))))
      refine g2 10 12 (ji (iand .i64 x_8 (w64 (0 - x_8)))) h10 h12 fun h13 => ?_
      refine gm h13 fun h6 => gq (.nsq (.seq (.block (.loop ?_))))
      exact t_f142_l1 H x_8 x_1 x_9 (i_net_parts_l2 F x_1 k) ih F (iand .i64 x_8 (w64 (0 - x_8))) _ ⟨h1, h2, h4, h5, h6⟩ h
    refine .exit (.esq (.elp (.ebk (.nsq (.seq (rg (gv (oI 5 [] x_9) (ev_mov h5 ok_encO) fun h30 => ?_)))))))
    refine gv (oI 5 [] x_9) (ev_mov h30 ok_encO) fun h4 => ?_
    refine g_end ?_
    refine e_home (r := 5) (x := 4) (v := _) h4 ok_encO (fun s_11 hg_11 => ?_)
    refine ez [(4, (oI 4 [] x_9))] (hg_11 4 _ _ h4 (map_encO (r := 5) (p := []) rfl rfl)) ?_
    rintro s h4
    refine .nsq (.ret ?_)
    have hr := Option.some.inj h
    subst hr
    exact rrA (res_tmp h4) (fin_retF (fin_own (o := x_9)) (mine_own rfl))
def i_net_parts (F : Nat) (x_1 : (S1 (List Int))) (x_2 : Int) : Option (List Int) :=
  i_net_parts_l2 F x_1 F x_2 .nil
theorem t142 (H : H142 D σ F) (x_1 : (S1 (List Int))) (x_2 : Int) (s : Nat → V) (hs : Facts [(0, (.agg [(eL x_1.a)])), (1, (ji x_2))] s) (h : i_net_parts F x_1 x_2 = some r) : Run D σ (R142 r) (.run A142 []) s := by
  unfold i_net_parts at h
  obtain ⟨h0, h1⟩ := hs
  refine .seq (run_reg ?_)
  refine e_clr ?_
  refine ez [(0, _), (1, _), (2, _)] ⟨(keep_clear (pk := [2]) h0 rfl (map_agg (maps_cons me maps_nil))), (keep_clear (pk := [2]) h1 rfl mi), (gone_clear (pk := [2]) (t := 2) rfl)⟩ ?_
  rintro s ⟨h0, h1, h2⟩
  refine g_box (.agg [(eL x_1.a)]) (rd_of h0 rfl) h2 rfl ?_
  refine g0 (.sl .nl (Enc.shp Int) 0 []) fun h4 => ?_
  refine gq (.nsq (.seq (rg (g0 (.sl .nl (Enc.shp Int) 0 []) fun h5 => ?_))))
  refine gq (.nsq (.seq (.block (.loop ?_))))
  exact t_f142_l2 H x_1 F x_2 .nil _ ⟨h1, rfl, h4, h5⟩ h
end
def e142 (F : Nat) : Ent := ent 142 (fun (x : ((S1 (List Int)) × Int × Unit)) => i_net_parts F x.1 x.2.1) (fun (r : (List Int)) => (Enc.enc (r : (List Int)))) 0 false []
theorem p142 {F : Nat} {x0 : (S1 (List Int))} {x1 : Int} {r : (List Int)} (h : i_net_parts F x0 x1 = some r) : (e142 F).den [Enc.enc x0, Enc.enc x1] = some (Enc.enc (r : (List Int))) := ent_put (x0, x1, ()) h
theorem o142 {D : Den} {σ : Sig} {F : Nat} (hF : Fits2 Try.prog D σ) (H : H142 D σ F) : (e142 F).Ok Try.prog := by
  refine ok_of (f := 142) (show unk 142 = 142 from rfl) (fun args r h => ?_) ⟨Try.f142, Try.func142, rfl, rfl⟩
  obtain ⟨⟨x0, x1, _⟩, y, rfl, hy, rfl⟩ := da_open h
  exact contract_run hF (by kernel_rfl) Try.func142 rfl c142 (show 2 ≤ Try.f142.ntmps by decide) (t142 H x0 x1 _ ⟨rfl, rfl⟩ hy)
/- (loop.example/g01109/impl.net).touch -/
def A151_1 : AC := (.seq (.reg [] [((jv 7 (.load (.ag [.p]) (.t 3)))), (jm 8 1), (.mk (some 9) none false (.call (.k (.fn 175 [] [])) [(.t 7), (.t 8)])), (jm 10 2), ((jv 11 (.bin .and (.t 9) (.t 10)))), ((jv 12 (.bin .neq (.t 11) (jn 0)))), (jm 6 12)] []) .ret)
def A151 : AC := (.seq (.reg [.clr [3]] [(.mk (some 3) none false (.box (.t 0))), ((jv 6 (.mov (.k (.bool false)))))] []) A151_1)
def an151 : List An := [{ id := 0, pre := [.clr [3]], ep := [], lin := [], sp := [] }]
theorem c151 : cC Try.prog Try.f151.ntmps an151 (Try.f151.body.getD .skip) = some A151 := by kernel_rfl
structure H151 (D : Den) (σ : Sig) (F : Nat) : Prop where
  c175 : ∀ (x0 : (S1 (List Int))) (x1 : Int) r, i_net_around F x0 x1 = some r → D 175 [Enc.enc x0, Enc.enc x1] = some (Enc.enc (r : Int))
  g175 : σ 175 = some (0, false)
abbrev R151 (r : Bool) : (Nat → V) → Prop := RR Try.prog [.tmp 6] 0 false (Enc.enc (r : Bool))
section
variable {D : Den} {σ : Sig} {F : Nat} {r : Bool}
def i_net_touch (F : Nat) (x_1 : (S1 (List Int))) (x_2 : Int) (x_3 : Int) : Option Bool :=
  (i_net_around F x_1 x_2).bind fun r_4 =>
  some ((iand .i64 r_4 x_3) != 0)
theorem t151 (H : H151 D σ F) (x_1 : (S1 (List Int))) (x_2 : Int) (x_3 : Int) (s : Nat → V) (hs : Facts [(0, (.agg [(eL x_1.a)])), (1, (ji x_2)), (2, (ji x_3))] s) (h : i_net_touch F x_1 x_2 x_3 = some r) : Run D σ (R151 r) (.run A151 []) s := by
  unfold i_net_touch at h
  obtain ⟨h0, h1, h2⟩ := hs
  refine .seq (run_reg ?_)
  refine e_clr ?_
  refine ez [(0, _), (1, _), (2, _), (3, _)] ⟨(keep_clear (pk := [3]) h0 rfl (map_agg (maps_cons me maps_nil))), (keep_clear (pk := [3]) h1 rfl mi), (keep_clear (pk := [3]) h2 rfl mi), (gone_clear (pk := [3]) (t := 3) rfl)⟩ ?_
  rintro s ⟨h0, h1, h2, h3⟩
  refine g_box (.agg [(eL x_1.a)]) (rd_of h0 rfl) h3 rfl ?_
  refine g0 (jb false) fun h6 => ?_
  refine gq (.nsq (.seq (rg (g1 3 (.agg [(eL x_1.a)]) (rfl : (_ : V) = (.ref (.bx 3) 0 [] (.agg [(eL x_1.a)]))) fun h7 => ?_))))
  refine gm h1 fun h8 => ?_
  obtain ⟨r_4, E_r_4, h⟩ := bind_some h
  refine g_call (m := 0) (al := false) (r := (Enc.enc (r_4 : Int))) [Enc.enc (x_1 : (S1 (List Int))), Enc.enc (x_2 : Int)] (ta_cons (v := (.agg [(eL x_1.a)])) h7 rfl (Enc.erase_enc (x_1 : (S1 (List Int)))) (ta_cons (v := (ji x_2)) h8 rfl rfl ta_nil)) (H.c175 _ _ _ E_r_4) H.g175 rfl rfl rfl rfl ?_
  refine gm h2 fun h10 => g2 9 10 (ji (iand .i64 r_4 x_3)) (rfl : (_ : V) = (ji r_4)) h10 fun h11 => ?_
  refine g1 11 (jb ((iand .i64 r_4 x_3) != 0)) h11 fun h12 => ?_
  refine gm h12 fun h6 => gq (.nsq (.ret ?_))
  have hr := Option.some.inj h
  subst hr
  exact rrA (res_tmp h6) rfl
end
def e151 (F : Nat) : Ent := ent 151 (fun (x : ((S1 (List Int)) × Int × Int × Unit)) => i_net_touch F x.1 x.2.1 x.2.2.1) (fun (r : Bool) => (Enc.enc (r : Bool))) 0 false []
theorem p151 {F : Nat} {x0 : (S1 (List Int))} {x1 : Int} {x2 : Int} {r : Bool} (h : i_net_touch F x0 x1 x2 = some r) : (e151 F).den [Enc.enc x0, Enc.enc x1, Enc.enc x2] = some (Enc.enc (r : Bool)) := ent_put (x0, x1, x2, ()) h
theorem o151 {D : Den} {σ : Sig} {F : Nat} (hF : Fits2 Try.prog D σ) (H : H151 D σ F) : (e151 F).Ok Try.prog := by
  refine ok_of (f := 151) (show unk 151 = 151 from rfl) (fun args r h => ?_) ⟨Try.f151, Try.func151, rfl, rfl⟩
  obtain ⟨⟨x0, x1, x2, _⟩, y, rfl, hy, rfl⟩ := da_open h
  exact contract_run hF (by kernel_rfl) Try.func151 rfl c151 (show 3 ≤ Try.f151.ntmps by decide) (t151 H x0 x1 x2 _ ⟨rfl, rfl, rfl⟩ hy)
/- loop.example/g01109/impl.isBramble$1 -/
def A150_1 : AC := (.seq (.reg [] [((jv 5 (.load (.ag [.p]) (.t 1)))), ((jv 6 (.load .p (.t 2)))), (.mk (some 7) none false (.call (.k (.fn 93 [] [])) [(.t 6)])), (jm 8 0), (.mk (some 9) none false (.call (.k (.fn 93 [] [])) [(.t 8)])), (.mk (some 10) none false (.call (.k (.fn 151 [] [])) [(.t 5), (.t 7), (.t 9)])), ((jv 11 (.un .not (.t 10)))), (jm 4 11)] []) .ret)
def A150 : AC := (.seq (.reg [] [((jv 4 (.mov (.k (.bool false)))))] []) A150_1)
def an150 : List An := []
theorem c150 : cC Try.prog Try.f150.ntmps an150 (Try.f150.body.getD .skip) = some A150 := by kernel_rfl
structure H150 (D : Den) (σ : Sig) (F : Nat) : Prop where
  c93 : ∀ (x0 : (List Int)) r, i_maskOf F x0 = some r → D 93 [Enc.enc x0] = some (Enc.enc (r : Int))
  g93 : σ 93 = some (0, false)
  c151 : ∀ (x0 : (S1 (List Int))) (x1 : Int) (x2 : Int) r, i_net_touch F x0 x1 x2 = some r → D 151 [Enc.enc x0, Enc.enc x1, Enc.enc x2] = some (Enc.enc (r : Bool))
  g151 : σ 151 = some (0, false)
abbrev R150 (r : Bool) : (Nat → V) → Prop := RR Try.prog [.tmp 4] 0 false (Enc.enc (r : Bool))
section
variable {D : Den} {σ : Sig} {F : Nat} {r : Bool}
def i_isBramble_1 (F : Nat) (x_1 : (List Int)) (rf_2 : (Rf (S1 (List Int)))) (rf_3 : (Rf (List Int))) : Option Bool :=
  (i_maskOf F rf_3.v).bind fun r_4 =>
  (i_maskOf F x_1).bind fun r_5 =>
  (i_net_touch F rf_2.v r_4 r_5).bind fun r_6 =>
  some (!r_6)
theorem t150 (H : H150 D σ F) (x_1 : (List Int)) (rf_2 : (Rf (S1 (List Int)))) (rf_3 : (Rf (List Int))) (s : Nat → V) (hs : Facts [(0, (eL x_1)), (1, (.ref .sh 0 [] (.agg [(eL rf_2.v.a)]))), (2, (.ref .sh 0 [] (eL rf_3.v)))] s) (h : i_isBramble_1 F x_1 rf_2 rf_3 = some r) : Run D σ (R150 r) (.run A150 []) s := by
  unfold i_isBramble_1 at h
  obtain ⟨h0, h1, h2⟩ := hs
  refine .seq (rg (g0 (jb false) fun h4 => ?_))
  refine gq (.nsq (.seq (rg (g1 1 (.agg [(eL rf_2.v.a)]) h1 fun h5 => ?_))))
  refine g1 2 (eL rf_3.v) h2 fun h6 => ?_
  obtain ⟨r_4, E_r_4, h⟩ := bind_some h
  refine g_call (m := 0) (al := false) (r := (Enc.enc (r_4 : Int))) [Enc.enc (rf_3.v : (List Int))] (ta_cons (v := (eL rf_3.v)) h6 rfl (Enc.erase_enc (rf_3.v : (List Int))) ta_nil) (H.c93 _ _ E_r_4) H.g93 rfl rfl rfl rfl ?_
  refine gm h0 fun h8 => ?_
  obtain ⟨r_5, E_r_5, h⟩ := bind_some h
  refine g_call (m := 0) (al := false) (r := (Enc.enc (r_5 : Int))) [Enc.enc (x_1 : (List Int))] (ta_cons (v := (eL x_1)) h8 rfl (Enc.erase_enc (x_1 : (List Int))) ta_nil) (H.c93 _ _ E_r_5) H.g93 rfl rfl rfl rfl ?_
  obtain ⟨r_6, E_r_6, h⟩ := bind_some h
  refine g_call (m := 0) (al := false) (r := (Enc.enc (r_6 : Bool))) [Enc.enc (rf_2.v : (S1 (List Int))), Enc.enc (r_4 : Int), Enc.enc (r_5 : Int)] (ta_cons (v := (.agg [(eL rf_2.v.a)])) h5 rfl (Enc.erase_enc (rf_2.v : (S1 (List Int)))) (ta_cons (v := (ji r_4)) rfl rfl rfl (ta_cons (v := (ji r_5)) rfl rfl rfl ta_nil))) (H.c151 _ _ _ _ E_r_6) H.g151 rfl rfl rfl rfl ?_
  refine g1 10 (jb (!r_6)) (rfl : (_ : V) = (jb r_6)) fun h11 => ?_
  refine gm h11 fun h4 => gq (.nsq (.ret ?_))
  have hr := Option.some.inj h
  subst hr
  exact rrA (res_tmp h4) rfl
end
def e150 (F : Nat) : Ent := ent 150 (fun (x : ((List Int) × (Rf (S1 (List Int))) × (Rf (List Int)) × Unit)) => i_isBramble_1 F x.1 x.2.1 x.2.2.1) (fun (r : Bool) => (Enc.enc (r : Bool))) 0 false []
theorem p150 {F : Nat} {x0 : (List Int)} {x1 : (Rf (S1 (List Int)))} {x2 : (Rf (List Int))} {r : Bool} (h : i_isBramble_1 F x0 x1 x2 = some r) : (e150 F).den [Enc.enc x0, Arg.arg x1, Arg.arg x2] = some (Enc.enc (r : Bool)) := ent_put (x0, x1, x2, ()) h
theorem o150 {D : Den} {σ : Sig} {F : Nat} (hF : Fits2 Try.prog D σ) (H : H150 D σ F) : (e150 F).Ok Try.prog := by
  refine ok_of (f := 150) (show unk 150 = 150 from rfl) (fun args r h => ?_) ⟨Try.f150, Try.func150, rfl, rfl⟩
  obtain ⟨⟨x0, x1, x2, _⟩, y, rfl, hy, rfl⟩ := da_open h
  exact contract_run hF (by kernel_rfl) Try.func150 rfl c150 (show 3 ≤ Try.f150.ntmps by decide) (t150 H x0 x1 x2 _ ⟨rfl, rfl, rfl⟩ hy)
/- slices.IndexFunc[[][]int,[]int] -/
def A152s1_5 : AC := (.cond (.t 16) (.seq (.reg [] [(jm 17 5), (jm 4 17)] []) .ret) .skip)
def A152s1_4 : AC := (.seq (.reg [] [(jm 11 1), (jm 12 0), (jm 13 5), ((jv 14 (.idx (.t 12) (.t 13) 1))), ((jv 15 (.load .p (.t 14)))), (.mk (some 16) none false (.call (.t 11) [(.t 15)]))] []) A152s1_5)
def A152s1_6 : AC := (.reg [] [((jv 18 (.bin .add (.t 8) (jn 1)))), (jm 8 18)] [])
def A152s1_3 : AC := (.seq (.block 1 (.seq (.reg [] [(jm 10 8), (jm 5 10)] []) A152s1_4)) A152s1_6)
def A152s1_2 : AC := (.seq (.cond (.t 9) .skip (.exit 0)) A152s1_3)
def A152s1_1 : AC := (.seq (.reg [] [((jv 9 (.bin .lss (.t 8) (.t 7))))] []) A152s1_2)
def A152s1_7 : AC := (.seq (.reg [] [((jv 4 (.mov (jn (-1)))))] []) .ret)
def A152s1_9 : AC := (.block 0 (.loop A152s1_1))
def A152s1_8 : AC := (.seq (.seq (.reg [] [(jm 6 0), ((jv 7 (.len (.t 6)))), ((jv 8 (.mov (jn 0))))] []) A152s1_9) A152s1_7)
def A152s1 : AC := (.seq (.reg [] [((jv 4 (.mov (jn 0))))] []) A152s1_8)
def an152s1 : List An := []
theorem c152s1 : cC Try.prog Try.f152.ntmps an152s1 (Try.f152.body.getD .skip) = some A152s1 := by kernel_rfl
structure H152s1 (D : Den) (σ : Sig) (F : Nat) : Prop where
  c150 : ∀ (x0 : (List Int)) (x1 : (Rf (S1 (List Int)))) (x2 : (Rf (List Int))) r, i_isBramble_1 F x0 x1 x2 = some r → D 150 [Enc.enc x0, Arg.arg x1, Arg.arg x2] = some (Enc.enc (r : Bool))
  g150 : σ 150 = some (0, false)
abbrev R152s1 (r : Int) : (Nat → V) → Prop := RR Try.prog [.tmp 4] 0 false (Enc.enc (r : Int))
section
variable {D : Den} {σ : Sig} {F : Nat} {r : Int}
def slices_IndexFunc_int_int_of_i_isBramble_1_l1 (F : Nat) (x_1 : (List (List Int))) (x_2 : (Cl 150 Unit ((Rf (S1 (List Int))) × (Rf (List Int)) × Unit)))  : Nat → Int → Option Int
  | 0, _ => none
  | k + 1, x_5 =>
    bif decide (x_5 < (x_1.length : Int)) then
      (idx x_1 x_5).bind fun e_8 =>
      (i_isBramble_1 F e_8 x_2.env.1 x_2.env.2.1).bind fun r_9 =>
      bif r_9 then
        some x_5
      else
        (slices_IndexFunc_int_int_of_i_isBramble_1_l1 F x_1 x_2 k) (w64 (x_5 + 1))
    else
      some (-1)
theorem t_f152s1_l1 (H : H152s1 D σ F) (x_1 : (List (List Int))) (x_2 : (Cl 150 Unit ((Rf (S1 (List Int))) × (Rf (List Int)) × Unit)))  : ∀ (k : Nat) (x_5 : Int) (s : Nat → V), Facts [(0, (Enc.enc (x_1 : List (List Int)))), (1, (.fn 150 [] [(.ref .sh 0 [] (.agg [(eL x_2.env.1.v.a)])), (.ref .sh 0 [] (eL x_2.env.2.1.v))])), (4, (ji 0)), (7, (ji (x_1.length : Int))), (8, (ji x_5))] s → slices_IndexFunc_int_int_of_i_isBramble_1_l1 F x_1 x_2 k x_5 = some r → Run D σ (R152s1 r) (.run A152s1_1 [.lp A152s1_1, .bk 0, .sq A152s1_7]) s := by
  intro k
  induction k with
  | zero => intro x_5 s _ h; exact nomatch (h : (none : Option _) = some r)
  | succ k ih =>
    intro x_5 s hs h
    rw [slices_IndexFunc_int_int_of_i_isBramble_1_l1] at h
    obtain ⟨h0, h1, h4, h7, h8⟩ := hs
    refine .seq (rg (g2 8 7 (jb (decide (x_5 < (x_1.length : Int)))) h8 h7 fun h9 => ?_))
    refine gq (.nsq (.seq (run_cond (t := decide (x_5 < (x_1.length : Int))) h9 h (fun h => ?_) (fun h => ?_))))
    · refine .skip (.nsq (.seq (.block (.seq (rg (gm h8 fun h10 => gm h10 fun h5 => gq (.nsq (.seq (rg (gm h1 fun h11 => gm h0 fun h12 => gm h5 fun h13 => ?_))))))))))
      obtain ⟨e_8, E_e_8, h⟩ := bind_some h
      refine gv (.ref .sh 0 [] (eL e_8)) (ev_idx (t := .sh) (lo := 0) (xs := x_1) h12 h13 E_e_8 rfl rfl) fun h14 => ?_
      refine g1 14 (eL e_8) h14 fun h15 => ?_
      obtain ⟨r_9, E_r_9, h⟩ := bind_some h
      refine g_callF (m := 0) (al := false) (r := (Enc.enc (r_9 : Bool))) (fs := []) (env := [(.ref .sh 0 [] (.agg [(eL x_2.env.1.v.a)])), (.ref .sh 0 [] (eL x_2.env.2.1.v))]) (us := []) (ws := [Arg.arg (x_2.env.1 : (Rf (S1 (List Int)))), Arg.arg (x_2.env.2.1 : (Rf (List Int)))]) h11 erases_nil (erases_cons (erase_ref (Enc.erase_enc (x_2.env.1.v : (S1 (List Int))))) (erases_cons (erase_ref (Enc.erase_enc (x_2.env.2.1.v : (List Int)))) erases_nil)) rfl [Enc.enc (e_8 : (List Int))] (ta_cons (v := (eL e_8)) h15 rfl (Enc.erase_enc (e_8 : (List Int))) ta_nil) (H.c150 _ _ _ _ E_r_9) H.g150 rfl rfl rfl rfl ?_
      refine gq (.nsq (run_cond (t := r_9) rfl h (fun h => ?_) (fun h => ?_)))
      · refine .seq (rg (gm h5 fun h17 => gm h17 fun h4 => gq (.nsq (.ret ?_))))
        have hr := Option.some.inj h
        subst hr
        exact rrA (res_tmp h4) rfl
      refine .skip (.nbk (.nsq (rg (g1 8 (ji (w64 (x_5 + 1))) h8 fun h18 => ?_))))
      refine gm h18 fun h8 => gq (.nlp ?_)
      exact ih (w64 (x_5 + 1)) _ ⟨h0, h1, h4, h7, h8⟩ h
    refine .exit (.esq (.elp (.ebk (.nsq (.seq (rg (g0 (ji (-1)) fun h4 => ?_)))))))
    refine gq (.nsq (.ret ?_))
    have hr := Option.some.inj h
    subst hr
    exact rrA (res_tmp h4) rfl
def slices_IndexFunc_int_int_of_i_isBramble_1 (F : Nat) (x_1 : (List (List Int))) (x_2 : (Cl 150 Unit ((Rf (S1 (List Int))) × (Rf (List Int)) × Unit))) : Option Int :=
  slices_IndexFunc_int_int_of_i_isBramble_1_l1 F x_1 x_2 F 0
theorem t152s1 (H : H152s1 D σ F) (x_1 : (List (List Int))) (x_2 : (Cl 150 Unit ((Rf (S1 (List Int))) × (Rf (List Int)) × Unit))) (s : Nat → V) (hs : Facts [(0, (Enc.enc (x_1 : List (List Int)))), (1, (.fn 150 [] [(.ref .sh 0 [] (.agg [(eL x_2.env.1.v.a)])), (.ref .sh 0 [] (eL x_2.env.2.1.v))]))] s) (h : slices_IndexFunc_int_int_of_i_isBramble_1 F x_1 x_2 = some r) : Run D σ (R152s1 r) (.run A152s1 []) s := by
  unfold slices_IndexFunc_int_int_of_i_isBramble_1 at h
  obtain ⟨h0, h1⟩ := hs
  refine .seq (rg (g0 (ji 0) fun h4 => gq (.nsq (.seq (.seq (rg (gm h0 fun h6 => gv (ji (x_1.length : Int)) (ev_len (xs := x_1) h6) fun h7 => ?_)))))))
  refine g0 (ji 0) fun h8 => gq (.nsq (.block (.loop ?_)))
  exact t_f152s1_l1 H x_1 x_2 F 0 _ ⟨h0, h1, h4, h7, h8⟩ h
end
def e152s1 (F : Nat) : Ent := ent 152 (fun (x : ((List (List Int)) × (Cl 150 Unit ((Rf (S1 (List Int))) × (Rf (List Int)) × Unit)) × Unit)) => slices_IndexFunc_int_int_of_i_isBramble_1 F x.1 x.2.1) (fun (r : Int) => (Enc.enc (r : Int))) 0 false [(1, 150)]
theorem p152s1 {F : Nat} {x0 : (List (List Int))} {x1 : (Cl 150 Unit ((Rf (S1 (List Int))) × (Rf (List Int)) × Unit))} {r : Int} (h : slices_IndexFunc_int_int_of_i_isBramble_1 F x0 x1 = some r) : (e152s1 F).den [Enc.enc x0, Arg.arg x1] = some (Enc.enc (r : Int)) := ent_put (x0, x1, ()) h
theorem o152s1 {D : Den} {σ : Sig} {F : Nat} (hF : Fits2 Try.prog D σ) (H : H152s1 D σ F) : (e152s1 F).Ok Try.prog := by
  refine ok_of (f := 152) (show unk 152 = 152 from rfl) (fun args r h => ?_) ⟨Try.f152, Try.func152, rfl, rfl⟩
  obtain ⟨⟨x0, x1, _⟩, y, rfl, hy, rfl⟩ := da_open h
  exact contract_run hF (by kernel_rfl) Try.func152 rfl c152s1 (show 2 ≤ Try.f152.ntmps by decide) (t152s1 H x0 x1 _ ⟨rfl, rfl⟩ hy)
/- slices.ContainsFunc[[][]int,[]int] -/
def A91s1_1 : AC := (.seq (.reg [] [(jm 5 0), (jm 6 1), (.mk (some 7) none false (.call (.k (.fn 152 [] [])) [(.t 5), (.t 6)])), ((jv 8 (.bin .geq (.t 7) (jn 0)))), (jm 4 8)] []) .ret)
def A91s1 : AC := (.seq (.reg [] [((jv 4 (.mov (.k (.bool false)))))] []) A91s1_1)
def an91s1 : List An := []
theorem c91s1 : cC Try.prog Try.f91.ntmps an91s1 (Try.f91.body.getD .skip) = some A91s1 := by kernel_rfl
structure H91s1 (D : Den) (σ : Sig) (F : Nat) : Prop where
  c152s1 : ∀ (x0 : (List (List Int))) (x1 : (Cl 150 Unit ((Rf (S1 (List Int))) × (Rf (List Int)) × Unit))) r, slices_IndexFunc_int_int_of_i_isBramble_1 F x0 x1 = some r → D 152 [Enc.enc x0, Arg.arg x1] = some (Enc.enc (r : Int))
  g152s1 : σ 152 = some (0, false)
abbrev R91s1 (r : Bool) : (Nat → V) → Prop := RR Try.prog [.tmp 4] 0 false (Enc.enc (r : Bool))
section
variable {D : Den} {σ : Sig} {F : Nat} {r : Bool}
def slices_ContainsFunc_int_int_of_i_isBramble_1 (F : Nat) (x_1 : (List (List Int))) (x_2 : (Cl 150 Unit ((Rf (S1 (List Int))) × (Rf (List Int)) × Unit))) : Option Bool :=
  (slices_IndexFunc_int_int_of_i_isBramble_1 F x_1 x_2).bind fun r_3 =>
  some (decide (r_3 ≥ 0))
theorem t91s1 (H : H91s1 D σ F) (x_1 : (List (List Int))) (x_2 : (Cl 150 Unit ((Rf (S1 (List Int))) × (Rf (List Int)) × Unit))) (s : Nat → V) (hs : Facts [(0, (Enc.enc (x_1 : List (List Int)))), (1, (.fn 150 [] [(.ref .sh 0 [] (.agg [(eL x_2.env.1.v.a)])), (.ref .sh 0 [] (eL x_2.env.2.1.v))]))] s) (h : slices_ContainsFunc_int_int_of_i_isBramble_1 F x_1 x_2 = some r) : Run D σ (R91s1 r) (.run A91s1 []) s := by
  unfold slices_ContainsFunc_int_int_of_i_isBramble_1 at h
  obtain ⟨h0, h1⟩ := hs
  refine .seq (rg (g0 (jb false) fun h4 => ?_))
  refine gq (.nsq (.seq (rg (gm h0 fun h5 => gm h1 fun h6 => ?_))))
  obtain ⟨r_3, E_r_3, h⟩ := bind_some h
  refine g_call (m := 0) (al := false) (r := (Enc.enc (r_3 : Int))) [Enc.enc (x_1 : (List (List Int))), Arg.arg (x_2 : (Cl 150 Unit ((Rf (S1 (List Int))) × (Rf (List Int)) × Unit)))] (ta_cons (v := (Enc.enc (x_1 : List (List Int)))) h5 rfl (Enc.erase_enc (x_1 : (List (List Int)))) (ta_cons (v := (.fn 150 [] [(.ref .sh 0 [] (.agg [(eL x_2.env.1.v.a)])), (.ref .sh 0 [] (eL x_2.env.2.1.v))])) h6 rfl (erase_fn erases_nil (erases_cons (erase_ref (Enc.erase_enc (x_2.env.1.v : (S1 (List Int))))) (erases_cons (erase_ref (Enc.erase_enc (x_2.env.2.1.v : (List Int)))) erases_nil))) ta_nil)) (H.c152s1 _ _ _ E_r_3) H.g152s1 rfl rfl rfl rfl ?_
  refine g1 7 (jb (decide (r_3 ≥ 0))) (rfl : (_ : V) = (ji r_3)) fun h8 => ?_
  refine gm h8 fun h4 => gq (.nsq (.ret ?_))
  have hr := Option.some.inj h
  subst hr
  exact rrA (res_tmp h4) rfl
end
def e91s1 (F : Nat) : Ent := ent 91 (fun (x : ((List (List Int)) × (Cl 150 Unit ((Rf (S1 (List Int))) × (Rf (List Int)) × Unit)) × Unit)) => slices_ContainsFunc_int_int_of_i_isBramble_1 F x.1 x.2.1) (fun (r : Bool) => (Enc.enc (r : Bool))) 0 false [(1, 150)]
theorem p91s1 {F : Nat} {x0 : (List (List Int))} {x1 : (Cl 150 Unit ((Rf (S1 (List Int))) × (Rf (List Int)) × Unit))} {r : Bool} (h : slices_ContainsFunc_int_int_of_i_isBramble_1 F x0 x1 = some r) : (e91s1 F).den [Enc.enc x0, Arg.arg x1] = some (Enc.enc (r : Bool)) := ent_put (x0, x1, ()) h
theorem o91s1 {D : Den} {σ : Sig} {F : Nat} (hF : Fits2 Try.prog D σ) (H : H91s1 D σ F) : (e91s1 F).Ok Try.prog := by
  refine ok_of (f := 91) (show unk 91 = 91 from rfl) (fun args r h => ?_) ⟨Try.f91, Try.func91, rfl, rfl⟩
  obtain ⟨⟨x0, x1, _⟩, y, rfl, hy, rfl⟩ := da_open h
  exact contract_run hF (by kernel_rfl) Try.func91 rfl c91s1 (show 2 ≤ Try.f91.ntmps by decide) (t91s1 H x0 x1 _ ⟨rfl, rfl⟩ hy)
/- loop.example/g01109/impl.isBramble -/
def A90_5 : AC := (.cond (.t 28) (.seq (.reg [] [((jv 4 (.mov (.k (.bool false)))))] []) .ret) .skip)
def A90_7 : AC := (.cond (.t 33) (.seq (.reg [] [((jv 4 (.mov (.k (.bool false)))))] []) .ret) .skip)
def A90_6 : AC := (.seq (.reg [] [(jm 29 1), (jm 30 6), ((jv 31 (.slice (.t 29) none (some (.t 30)) 1))), ((jv 32 (.fn 150 [] [(.t 5), (.t 7)]))), (.mk (some 33) none false (.call (.k (.fn 91 [] [])) [(.t 31), (.t 32)]))] []) A90_7)
def A90_4 : AC := (.seq (.seq (.reg [] [((jv 17 (.load (.ag [.s, .p]) (.t 2)))), ((jv 18 (.load .p (.t 7)))), (.mk (some 19) none false (.call (.k (.fn 135 [] [])) [(.t 17), (.t 18)])), ((jv 20 (.un .not (.t 19)))), (jm 21 20), ((jg 22 21 false (.load (.ag [.p]) (.t 5)))), ((jg 23 21 false (.load .p (.t 7)))), (.mk (some 24) (some (21, false)) false (.call (.k (.fn 93 [] [])) [(.t 23)])), (.mk (some 25) (some (21, false)) false (.call (.k (.fn 142 [] [])) [(.t 22), (.t 24)])), ((jg 26 21 false (.len (.t 25)))), ((jg 27 21 false (.bin .neq (.t 26) (jn 1)))), ((jv 28 (.pick (.t 21) (.k (.bool true)) (.t 27))))] []) A90_5) A90_6)
def A90_8 : AC := (.reg [] [((jv 34 (.bin .add (.t 12) (jn 1)))), (jm 12 34)] [])
def A90_3 : AC := (.seq (.block 1 (.seq (.reg [.clr [7]] [(jm 14 12), ((jv 15 (.idx (.t 10) (.t 12) 1))), ((jv 16 (.load .p (.t 15)))), (.mk (some 7) none false (.alloc (.sl .nl .s 0 []))), (jm 6 14), (.mk none none false (.store .p (.t 7) (.t 16)))] []) A90_4)) A90_8)
def A90_2 : AC := (.seq (.cond (.t 13) .skip (.exit 0)) A90_3)
def A90_1 : AC := (.seq (.reg [] [((jv 13 (.bin .lss (.t 12) (.t 11))))] []) A90_2)
def A90_9 : AC := (.seq (.reg [] [(jm 35 1), ((jv 36 (.len (.t 35)))), ((jv 37 (.bin .gtr (.t 36) (jn 0)))), (jm 4 37)] []) .ret)
def A90_12 : AC := (.block 0 (.loop A90_1))
def A90_11 : AC := (.seq (.seq (.reg [] [(jm 10 1), ((jv 11 (.len (.t 10)))), ((jv 12 (.mov (jn 0))))] []) A90_12) A90_9)
def A90_10 : AC := (.seq (.reg [.clr [5]] [((jv 8 (.load (.ag [.s, .p]) (.t 2)))), (.mk (some 9) none false (.call (.k (.fn 65 [] [])) [(.t 8)])), (.mk (some 5) none false (.alloc (.agg [(.sl .nl .s 0 [])]))), (.mk none none false (.store (.ag [.p]) (.t 5) (.t 9)))] []) A90_11)
def A90 : AC := (.seq (.reg [.clr [2]] [(.mk (some 2) none false (.box (.t 0))), ((jv 4 (.mov (.k (.bool false)))))] []) A90_10)
def an90 : List An := [{ id := 0, pre := [.clr [2]], ep := [], lin := [], sp := [] }, { id := 1, pre := [.clr [5]], ep := [], lin := [], sp := [] }, { id := 4, pre := [.clr [7]], ep := [], lin := [], sp := [] }]
theorem c90 : cC Try.prog Try.f90.ntmps an90 (Try.f90.body.getD .skip) = some A90 := by kernel_rfl
structure H90 (D : Den) (σ : Sig) (F : Nat) : Prop where
  c65 : ∀ (x0 : (Int × (List (Int × Int)))) r, i_netOf F x0 = some r → D 65 [Enc.enc x0] = some (Enc.enc (r : (S1 (List Int))))
  g65 : σ 65 = some (0, false)
  c135 : ∀ (x0 : (Int × (List (Int × Int)))) (x1 : (List Int)) r, i_isSet F x0 x1 = some r → D 135 [Enc.enc x0, Enc.enc x1] = some (Enc.enc (r : Bool))
  g135 : σ 135 = some (0, false)
  c93 : ∀ (x0 : (List Int)) r, i_maskOf F x0 = some r → D 93 [Enc.enc x0] = some (Enc.enc (r : Int))
  g93 : σ 93 = some (0, false)
  c142 : ∀ (x0 : (S1 (List Int))) (x1 : Int) r, i_net_parts F x0 x1 = some r → D 142 [Enc.enc x0, Enc.enc x1] = some (Enc.enc (r : (List Int)))
  g142 : σ 142 = some (0, false)
  c91s1 : ∀ (x0 : (List (List Int))) (x1 : (Cl 150 Unit ((Rf (S1 (List Int))) × (Rf (List Int)) × Unit))) r, slices_ContainsFunc_int_int_of_i_isBramble_1 F x0 x1 = some r → D 91 [Enc.enc x0, Arg.arg x1] = some (Enc.enc (r : Bool))
  g91s1 : σ 91 = some (0, false)
abbrev R90 (r : Bool) : (Nat → V) → Prop := RR Try.prog [.tmp 4] 0 false (Enc.enc (r : Bool))
section
variable {D : Den} {σ : Sig} {F : Nat} {r : Bool}
def i_isBramble_j1 (F : Nat) (x_2 : (List (List Int))) (x_1 : (Int × (List (Int × Int)))) (r_3 : (S1 (List Int))) (x_14 : Int) (e_25 : (List Int)) (c1 : Int → Option Bool) (x_29 : Bool) : Option Bool :=
  bif x_29 then
    some false
  else
    (sub x_2 0 x_14).bind fun sub_30 =>
    (slices_ContainsFunc_int_int_of_i_isBramble_1 F sub_30 (Cl.mk () ((Rf.mk r_3 : (Rf (S1 (List Int)))), (Rf.mk e_25 : (Rf (List Int))), ()) : (Cl 150 Unit ((Rf (S1 (List Int))) × (Rf (List Int)) × Unit)))).bind fun r_31 =>
    bif r_31 then
      some false
    else
      c1 (w64 (x_14 + 1))
theorem t_f90_j1 (H : H90 D σ F) (x_2 : (List (List Int))) (x_1 : (Int × (List (Int × Int)))) (r_3 : (S1 (List Int))) (x_14 : Int) (e_25 : (List Int)) (c1 : Int → Option Bool) (Hc1 : ∀ (x_14 : Int) (s : Nat → V), Facts [(1, (Enc.enc (x_2 : List (List Int)))), (2, (.ref (.bx 2) 0 [] (.agg [(ji x_1.1), (Enc.enc (x_1.2 : List (Int × Int)))]))), (4, (jb false)), (5, (.ref (.bx 5) 0 [] (.agg [(eL r_3.a)]))), (10, (Enc.enc (x_2 : List (List Int)))), (11, (ji (x_2.length : Int))), (12, (ji x_14))] s → c1 x_14 = some r → Run D σ (R90 r) (.run A90_1 [.lp A90_1, .bk 0, .sq A90_9]) s) (x_29 : Bool) (s : Nat → V) (hs : Facts [(1, (Enc.enc (x_2 : List (List Int)))), (2, (.ref (.bx 2) 0 [] (.agg [(ji x_1.1), (Enc.enc (x_1.2 : List (Int × Int)))]))), (4, (jb false)), (5, (.ref (.bx 5) 0 [] (.agg [(eL r_3.a)]))), (6, (ji x_14)), (7, (.ref (.bx 7) 0 [] (eL e_25))), (10, (Enc.enc (x_2 : List (List Int)))), (11, (ji (x_2.length : Int))), (12, (ji x_14)), (28, (jb x_29))] s) (h : i_isBramble_j1 F x_2 x_1 r_3 x_14 e_25 c1 x_29 = some r) : Run D σ (R90 r) (.nrm [.sq A90_5, .sq A90_6, .bk 1, .sq A90_8, .lp A90_1, .bk 0, .sq A90_9]) s := by
  unfold i_isBramble_j1 at h
  obtain ⟨h1, h2, h4, h5, h6, h7, h10, h11, h12, h28⟩ := hs
  refine .nsq (run_cond (t := x_29) h28 h (fun h => ?_) (fun h => ?_))
  · refine .seq (rg (g0 (jb false) fun h4 => ?_))
    refine gq (.nsq (.ret ?_))
    have hr := Option.some.inj h
    subst hr
    exact rrA (res_tmp h4) rfl
  refine .skip (.nsq (.seq (rg (gm h1 fun h29 => gm h6 fun h30 => ?_))))
  obtain ⟨sub_30, E_sub_30, h⟩ := bind_some h
  refine gv (Enc.enc (sub_30 : List (List Int))) (ev_slice (xs := x_2) h29 (optI_none) (optI_some h30) E_sub_30 rfl) fun h31 => ?_
  refine g2 5 7 (.fn 150 [] [(.ref (.bx 5) 0 [] (.agg [(eL r_3.a)])), (.ref (.bx 7) 0 [] (eL e_25))]) h5 h7 fun h32 => ?_
  obtain ⟨r_31, E_r_31, h⟩ := bind_some h
  refine g_call (m := 0) (al := false) (r := (Enc.enc (r_31 : Bool))) [Enc.enc (sub_30 : (List (List Int))), Arg.arg ((Cl.mk () ((Rf.mk r_3 : (Rf (S1 (List Int)))), (Rf.mk e_25 : (Rf (List Int))), ()) : (Cl 150 Unit ((Rf (S1 (List Int))) × (Rf (List Int)) × Unit))) : (Cl 150 Unit ((Rf (S1 (List Int))) × (Rf (List Int)) × Unit)))] (ta_cons (v := (Enc.enc (sub_30 : List (List Int)))) h31 rfl (Enc.erase_enc (sub_30 : (List (List Int)))) (ta_cons (v := (.fn 150 [] [(.ref (.bx 5) 0 [] (.agg [(eL r_3.a)])), (.ref (.bx 7) 0 [] (eL e_25))])) h32 rfl (erase_fn erases_nil (erases_cons (erase_ref (Enc.erase_enc (r_3 : (S1 (List Int))))) (erases_cons (erase_ref (Enc.erase_enc (e_25 : (List Int)))) erases_nil))) ta_nil)) (H.c91s1 _ _ _ E_r_31) H.g91s1 rfl rfl rfl rfl ?_
  refine gq (.nsq (run_cond (t := r_31) rfl h (fun h => ?_) (fun h => ?_)))
  · refine .seq (rg (g0 (jb false) fun h4 => ?_))
    refine gq (.nsq (.ret ?_))
    have hr := Option.some.inj h
    subst hr
    exact rrA (res_tmp h4) rfl
  refine .skip (.nbk (.nsq (rg (g1 12 (ji (w64 (x_14 + 1))) h12 fun h34 => ?_))))
  refine gm h34 fun h12 => gq (.nlp ?_)
  exact Hc1 (w64 (x_14 + 1)) _ ⟨h1, h2, h4, h5, h10, h11, h12⟩ h
def i_isBramble_l1 (F : Nat) (x_2 : (List (List Int))) (x_1 : (Int × (List (Int × Int)))) (r_3 : (S1 (List Int)))  : Nat → Int → Option Bool
  | 0, _ => none
  | k + 1, x_14 =>
    bif decide (x_14 < (x_2.length : Int)) then
      (idx x_2 x_14).bind fun e_25 =>
      (i_isSet F x_1 e_25).bind fun r_32 =>
      bif (!r_32) then
        i_isBramble_j1 F x_2 x_1 r_3 x_14 e_25 (i_isBramble_l1 F x_2 x_1 r_3 k) true
      else
        (i_maskOf F e_25).bind fun r_33 =>
        (i_net_parts F r_3 r_33).bind fun r_34 =>
        i_isBramble_j1 F x_2 x_1 r_3 x_14 e_25 (i_isBramble_l1 F x_2 x_1 r_3 k) ((r_34.length : Int) != 1)
    else
      some (decide ((x_2.length : Int) > 0))
theorem t_f90_l1 (H : H90 D σ F) (x_2 : (List (List Int))) (x_1 : (Int × (List (Int × Int)))) (r_3 : (S1 (List Int)))  : ∀ (k : Nat) (x_14 : Int) (s : Nat → V), Facts [(1, (Enc.enc (x_2 : List (List Int)))), (2, (.ref (.bx 2) 0 [] (.agg [(ji x_1.1), (Enc.enc (x_1.2 : List (Int × Int)))]))), (4, (jb false)), (5, (.ref (.bx 5) 0 [] (.agg [(eL r_3.a)]))), (10, (Enc.enc (x_2 : List (List Int)))), (11, (ji (x_2.length : Int))), (12, (ji x_14))] s → i_isBramble_l1 F x_2 x_1 r_3 k x_14 = some r → Run D σ (R90 r) (.run A90_1 [.lp A90_1, .bk 0, .sq A90_9]) s := by
  intro k
  induction k with
  | zero => intro x_14 s _ h; exact nomatch (h : (none : Option _) = some r)
  | succ k ih =>
    intro x_14 s hs h
    rw [i_isBramble_l1] at h
    obtain ⟨h1, h2, h4, h5, h10, h11, h12⟩ := hs
    refine .seq (rg (g2 12 11 (jb (decide (x_14 < (x_2.length : Int)))) h12 h11 fun h13 => ?_))
    refine gq (.nsq (.seq (run_cond (t := decide (x_14 < (x_2.length : Int))) h13 h (fun h => ?_) (fun h => ?_))))
    · refine .skip (.nsq (.seq (.block (.seq (run_reg ?_)))))
      refine e_clr ?_
      refine ez [(1, _), (2, _), (4, _), (5, _), (7, _), (10, _), (11, _), (12, _)] ⟨(keep_clear (pk := [7]) h1 rfl me), (keep_clear (pk := [7]) h2 rfl (map_bx rfl (map_agg (maps_cons mi (maps_cons me maps_nil))))), (keep_clear (pk := [7]) h4 rfl mb), (keep_clear (pk := [7]) h5 rfl (map_bx rfl (map_agg (maps_cons me maps_nil)))), (gone_clear (pk := [7]) (t := 7) rfl), (keep_clear (pk := [7]) h10 rfl me), (keep_clear (pk := [7]) h11 rfl mi), (keep_clear (pk := [7]) h12 rfl mi)⟩ ?_
      rintro s ⟨h1, h2, h4, h5, h7, h10, h11, h12⟩
      refine gm h12 fun h14 => ?_
      obtain ⟨e_25, E_e_25, h⟩ := bind_some h
      refine gv (.ref .sh 0 [] (eL e_25)) (ev_idx (t := .sh) (lo := 0) (xs := x_2) h10 h12 E_e_25 rfl rfl) fun h15 => ?_
      refine g1 15 (eL e_25) h15 fun h16 => ?_
      refine g_alloc h7 ?_
      refine gm h14 fun h6 => g_store (eL e_25) (rd_of rfl rfl) (rd_of h16 rfl) (by refine ⟨by decide, by decide, rfl, rfl, rfl, ?_⟩; first | rfl | simp [V.toks, V.tokss, Enc.toks_enc]) ?_
      refine gz [(1, (Enc.enc (x_2 : List (List Int)))), (2, (.ref (.bx 2) 0 [] (.agg [(ji x_1.1), (Enc.enc (x_1.2 : List (Int × Int)))]))), (4, (jb false)), (5, (.ref (.bx 5) 0 [] (.agg [(eL r_3.a)]))), (6, (ji x_14)), (7, (.ref (.bx 7) 0 [] (eL e_25))), (10, (Enc.enc (x_2 : List (List Int)))), (11, (ji (x_2.length : Int))), (12, (ji x_14))] ⟨(keep_mut h1 (Enc.mut_enc _ _ _ _ (x_2 : List (List Int)))), (keep_mut h2 (mut_ref_ne rfl rfl (mut_agg (muts_cons rfl (muts_cons (Enc.mut_enc _ _ _ _ (x_1.2 : List (Int × Int))) rfl))))), (keep_mut h4 rfl), (keep_mut h5 (mut_ref_ne rfl rfl (mut_agg (muts_cons (Enc.mut_enc _ _ _ _ (r_3.a : List Int)) rfl)))), (keep_mut h6 rfl), (keep_mut rfl rfl), (keep_mut h10 (Enc.mut_enc _ _ _ _ (x_2 : List (List Int)))), (keep_mut h11 rfl), (keep_mut h12 rfl)⟩ ?_
      rintro s ⟨h1, h2, h4, h5, h6, h7, h10, h11, h12⟩
      refine .nsq (.seq (.seq (rg (g1 2 (.agg [(ji x_1.1), (Enc.enc (x_1.2 : List (Int × Int)))]) h2 fun h17 => ?_))))
      refine g1 7 (eL e_25) h7 fun h18 => ?_
      obtain ⟨r_32, E_r_32, h⟩ := bind_some h
      refine g_call (m := 0) (al := false) (r := (Enc.enc (r_32 : Bool))) [Enc.enc (x_1 : (Int × (List (Int × Int)))), Enc.enc (e_25 : (List Int))] (ta_cons (v := (.agg [(ji x_1.1), (Enc.enc (x_1.2 : List (Int × Int)))])) h17 rfl (Enc.erase_enc (x_1 : (Int × (List (Int × Int))))) (ta_cons (v := (eL e_25)) h18 rfl (Enc.erase_enc (e_25 : (List Int))) ta_nil)) (H.c135 _ _ _ E_r_32) H.g135 rfl rfl rfl rfl ?_
      refine g1 19 (jb (!r_32)) (rfl : (_ : V) = (jb r_32)) fun h20 => ?_
      refine gm h20 fun h21 => split_on (c := (!r_32)) h (fun hg5 h => ?_) (fun hg5 h => ?_)
      · refine g_no (h21.trans (congrArg V.bool hg5)) ?_
        refine g_no (h21.trans (congrArg V.bool hg5)) ?_
        refine g_no (h21.trans (congrArg V.bool hg5)) ?_
        refine g_no (h21.trans (congrArg V.bool hg5)) ?_
        refine g_no (h21.trans (congrArg V.bool hg5)) ?_
        refine g_no (h21.trans (congrArg V.bool hg5)) ?_
        refine g2 21 27 (jb true) (h21.trans (congrArg V.bool hg5)) (rfl : (_ : V) = (.tup [])) fun h28 => ?_
        refine gq ?_
        exact t_f90_j1 H x_2 x_1 r_3 x_14 e_25 (i_isBramble_l1 F x_2 x_1 r_3 k) ih true _ ⟨h1, h2, h4, h5, h6, h7, h10, h11, h12, h28⟩ h
      refine g_yes (h21.trans (congrArg V.bool hg5)) (g1 5 (.agg [(eL r_3.a)]) h5 fun h22 => ?_)
      refine g_yes (h21.trans (congrArg V.bool hg5)) (g1 7 (eL e_25) h7 fun h23 => ?_)
      obtain ⟨r_33, E_r_33, h⟩ := bind_some h
      refine g_yes (h21.trans (congrArg V.bool hg5)) (g_call (m := 0) (al := false) (r := (Enc.enc (r_33 : Int))) [Enc.enc (e_25 : (List Int))] (ta_cons (v := (eL e_25)) h23 rfl (Enc.erase_enc (e_25 : (List Int))) ta_nil) (H.c93 _ _ E_r_33) H.g93 rfl rfl rfl rfl ?_)
      obtain ⟨r_34, E_r_34, h⟩ := bind_some h
      refine g_yes (h21.trans (congrArg V.bool hg5)) (g_call (m := 0) (al := false) (r := (Enc.enc (r_34 : (List Int)))) [Enc.enc (r_3 : (S1 (List Int))), Enc.enc (r_33 : Int)] (ta_cons (v := (.agg [(eL r_3.a)])) h22 rfl (Enc.erase_enc (r_3 : (S1 (List Int)))) (ta_cons (v := (ji r_33)) rfl rfl rfl ta_nil)) (H.c142 _ _ _ E_r_34) H.g142 rfl rfl rfl rfl ?_)
      refine g_yes (h21.trans (congrArg V.bool hg5)) (gv (ji (r_34.length : Int)) (ev_len (xs := r_34) rfl) fun h26 => ?_)
      refine g_yes (h21.trans (congrArg V.bool hg5)) (g1 26 (jb ((r_34.length : Int) != 1)) h26 fun h27 => ?_)
      refine g2 21 27 (jb ((r_34.length : Int) != 1)) (h21.trans (congrArg V.bool hg5)) h27 fun h28 => ?_
      refine gq ?_
      exact t_f90_j1 H x_2 x_1 r_3 x_14 e_25 (i_isBramble_l1 F x_2 x_1 r_3 k) ih ((r_34.length : Int) != 1) _ ⟨h1, h2, h4, h5, h6, h7, h10, h11, h12, h28⟩ h
    refine .exit (.esq (.elp (.ebk (.nsq (.seq (rg (gm h1 fun h35 => gv (ji (x_2.length : Int)) (ev_len (xs := x_2) h35) fun h36 => ?_)))))))
    refine g1 36 (jb (decide ((x_2.length : Int) > 0))) h36 fun h37 => ?_
    refine gm h37 fun h4 => gq (.nsq (.ret ?_))
    have hr := Option.some.inj h
    subst hr
    exact rrA (res_tmp h4) rfl
def i_isBramble (F : Nat) (x_1 : (Int × (List (Int × Int)))) (x_2 : (List (List Int))) : Option Bool :=
  (i_netOf F x_1).bind fun r_3 =>
  i_isBramble_l1 F x_2 x_1 r_3 F 0
theorem t90 (H : H90 D σ F) (x_1 : (Int × (List (Int × Int)))) (x_2 : (List (List Int))) (s : Nat → V) (hs : Facts [(0, (.agg [(ji x_1.1), (Enc.enc (x_1.2 : List (Int × Int)))])), (1, (Enc.enc (x_2 : List (List Int))))] s) (h : i_isBramble F x_1 x_2 = some r) : Run D σ (R90 r) (.run A90 []) s := by
  unfold i_isBramble at h
  obtain ⟨h0, h1⟩ := hs
  refine .seq (run_reg ?_)
  refine e_clr ?_
  refine ez [(0, _), (1, _), (2, _)] ⟨(keep_clear (pk := [2]) h0 rfl (map_agg (maps_cons mi (maps_cons me maps_nil)))), (keep_clear (pk := [2]) h1 rfl me), (gone_clear (pk := [2]) (t := 2) rfl)⟩ ?_
  rintro s ⟨h0, h1, h2⟩
  refine g_box (.agg [(ji x_1.1), (Enc.enc (x_1.2 : List (Int × Int)))]) (rd_of h0 rfl) h2 rfl ?_
  refine g0 (jb false) fun h4 => ?_
  refine gq (.nsq (.seq (run_reg ?_)))
  refine e_clr ?_
  refine ez [(1, _), (2, _), (4, _), (5, _)] ⟨(keep_clear (pk := [5]) h1 rfl me), (keep_clear (pk := [5]) rfl rfl (map_bx rfl (map_agg (maps_cons mi (maps_cons me maps_nil))))), (keep_clear (pk := [5]) h4 rfl mb), (gone_clear (pk := [5]) (t := 5) rfl)⟩ ?_
  rintro s ⟨h1, h2, h4, h5⟩
  refine g1 2 (.agg [(ji x_1.1), (Enc.enc (x_1.2 : List (Int × Int)))]) h2 fun h8 => ?_
  obtain ⟨r_3, E_r_3, h⟩ := bind_some h
  refine g_call (m := 0) (al := false) (r := (Enc.enc (r_3 : (S1 (List Int))))) [Enc.enc (x_1 : (Int × (List (Int × Int))))] (ta_cons (v := (.agg [(ji x_1.1), (Enc.enc (x_1.2 : List (Int × Int)))])) h8 rfl (Enc.erase_enc (x_1 : (Int × (List (Int × Int))))) ta_nil) (H.c65 _ _ E_r_3) H.g65 rfl rfl rfl rfl ?_
  refine g_alloc h5 ?_
  refine g_store (.agg [(eL r_3.a)]) (rd_of rfl rfl) (rd_of rfl rfl) (by refine ⟨by decide, by decide, rfl, rfl, rfl, ?_⟩; first | rfl | simp [V.toks, V.tokss, Enc.toks_enc]) ?_
  refine gz [(1, (Enc.enc (x_2 : List (List Int)))), (2, (.ref (.bx 2) 0 [] (.agg [(ji x_1.1), (Enc.enc (x_1.2 : List (Int × Int)))]))), (4, (jb false)), (5, (.ref (.bx 5) 0 [] (.agg [(eL r_3.a)])))] ⟨(keep_mut h1 (Enc.mut_enc _ _ _ _ (x_2 : List (List Int)))), (keep_mut h2 (mut_ref_ne rfl rfl (mut_agg (muts_cons rfl (muts_cons (Enc.mut_enc _ _ _ _ (x_1.2 : List (Int × Int))) rfl))))), (keep_mut h4 rfl), (keep_mut rfl rfl)⟩ ?_
  rintro s ⟨h1, h2, h4, h5⟩
  refine .nsq (.seq (.seq (rg (gm h1 fun h10 => gv (ji (x_2.length : Int)) (ev_len (xs := x_2) h10) fun h11 => ?_))))
  refine g0 (ji 0) fun h12 => gq (.nsq (.block (.loop ?_)))
  exact t_f90_l1 H x_2 x_1 r_3 F 0 _ ⟨h1, h2, h4, h5, h10, h11, h12⟩ h
end
def e90 (F : Nat) : Ent := ent 90 (fun (x : ((Int × (List (Int × Int))) × (List (List Int)) × Unit)) => i_isBramble F x.1 x.2.1) (fun (r : Bool) => (Enc.enc (r : Bool))) 0 false []
theorem p90 {F : Nat} {x0 : (Int × (List (Int × Int)))} {x1 : (List (List Int))} {r : Bool} (h : i_isBramble F x0 x1 = some r) : (e90 F).den [Enc.enc x0, Enc.enc x1] = some (Enc.enc (r : Bool)) := ent_put (x0, x1, ()) h
theorem o90 {D : Den} {σ : Sig} {F : Nat} (hF : Fits2 Try.prog D σ) (H : H90 D σ F) : (e90 F).Ok Try.prog := by
  refine ok_of (f := 90) (show unk 90 = 90 from rfl) (fun args r h => ?_) ⟨Try.f90, Try.func90, rfl, rfl⟩
  obtain ⟨⟨x0, x1, _⟩, y, rfl, hy, rfl⟩ := da_open h
  exact contract_run hF (by kernel_rfl) Try.func90 rfl c90 (show 2 ≤ Try.f90.ntmps by decide) (t90 H x0 x1 _ ⟨rfl, rfl⟩ hy)
/- loop.example/g01109/impl.BrambleCover$1 -/
def A92_1 : AC := (.seq (.reg [] [(jm 4 0), (.mk (some 5) none false (.call (.k (.fn 93 [] [])) [(.t 4)])), ((jv 6 (.load .s (.t 1)))), ((jv 7 (.bin .and (.t 5) (.t 6)))), ((jv 8 (.bin .eql (.t 7) (jn 0)))), (jm 3 8)] []) .ret)
def A92 : AC := (.seq (.reg [] [((jv 3 (.mov (.k (.bool false)))))] []) A92_1)
def an92 : List An := []
theorem c92 : cC Try.prog Try.f92.ntmps an92 (Try.f92.body.getD .skip) = some A92 := by kernel_rfl
structure H92 (D : Den) (σ : Sig) (F : Nat) : Prop where
  c93 : ∀ (x0 : (List Int)) r, i_maskOf F x0 = some r → D 93 [Enc.enc x0] = some (Enc.enc (r : Int))
  g93 : σ 93 = some (0, false)
abbrev R92 (r : Bool) : (Nat → V) → Prop := RR Try.prog [.tmp 3] 0 false (Enc.enc (r : Bool))
section
variable {D : Den} {σ : Sig} {F : Nat} {r : Bool}
def i_BrambleCover_1 (F : Nat) (x_1 : (List Int)) (rf_2 : (Rf Int)) : Option Bool :=
  (i_maskOf F x_1).bind fun r_3 =>
  some ((iand .i64 r_3 rf_2.v) == 0)
theorem t92 (H : H92 D σ F) (x_1 : (List Int)) (rf_2 : (Rf Int)) (s : Nat → V) (hs : Facts [(0, (eL x_1)), (1, (.ref .sh 0 [] (ji rf_2.v)))] s) (h : i_BrambleCover_1 F x_1 rf_2 = some r) : Run D σ (R92 r) (.run A92 []) s := by
  unfold i_BrambleCover_1 at h
  obtain ⟨h0, h1⟩ := hs
  refine .seq (rg (g0 (jb false) fun h3 => ?_))
  refine gq (.nsq (.seq (rg (gm h0 fun h4 => ?_))))
  obtain ⟨r_3, E_r_3, h⟩ := bind_some h
  refine g_call (m := 0) (al := false) (r := (Enc.enc (r_3 : Int))) [Enc.enc (x_1 : (List Int))] (ta_cons (v := (eL x_1)) h4 rfl (Enc.erase_enc (x_1 : (List Int))) ta_nil) (H.c93 _ _ E_r_3) H.g93 rfl rfl rfl rfl ?_
  refine g1 1 (ji rf_2.v) h1 fun h6 => ?_
  refine g2 5 6 (ji (iand .i64 r_3 rf_2.v)) (rfl : (_ : V) = (ji r_3)) h6 fun h7 => ?_
  refine g1 7 (jb ((iand .i64 r_3 rf_2.v) == 0)) h7 fun h8 => ?_
  refine gm h8 fun h3 => gq (.nsq (.ret ?_))
  have hr := Option.some.inj h
  subst hr
  exact rrA (res_tmp h3) rfl
end
def e92 (F : Nat) : Ent := ent 92 (fun (x : ((List Int) × (Rf Int) × Unit)) => i_BrambleCover_1 F x.1 x.2.1) (fun (r : Bool) => (Enc.enc (r : Bool))) 0 false []
theorem p92 {F : Nat} {x0 : (List Int)} {x1 : (Rf Int)} {r : Bool} (h : i_BrambleCover_1 F x0 x1 = some r) : (e92 F).den [Enc.enc x0, Arg.arg x1] = some (Enc.enc (r : Bool)) := ent_put (x0, x1, ()) h
theorem o92 {D : Den} {σ : Sig} {F : Nat} (hF : Fits2 Try.prog D σ) (H : H92 D σ F) : (e92 F).Ok Try.prog := by
  refine ok_of (f := 92) (show unk 92 = 92 from rfl) (fun args r h => ?_) ⟨Try.f92, Try.func92, rfl, rfl⟩
  obtain ⟨⟨x0, x1, _⟩, y, rfl, hy, rfl⟩ := da_open h
  exact contract_run hF (by kernel_rfl) Try.func92 rfl c92 (show 2 ≤ Try.f92.ntmps by decide) (t92 H x0 x1 _ ⟨rfl, rfl⟩ hy)
/- slices.IndexFunc[[][]int,[]int] -/
def A152s2_5 : AC := (.cond (.t 16) (.seq (.reg [] [(jm 17 5), (jm 4 17)] []) .ret) .skip)
def A152s2_4 : AC := (.seq (.reg [] [(jm 11 1), (jm 12 0), (jm 13 5), ((jv 14 (.idx (.t 12) (.t 13) 1))), ((jv 15 (.load .p (.t 14)))), (.mk (some 16) none false (.call (.t 11) [(.t 15)]))] []) A152s2_5)
def A152s2_6 : AC := (.reg [] [((jv 18 (.bin .add (.t 8) (jn 1)))), (jm 8 18)] [])
def A152s2_3 : AC := (.seq (.block 1 (.seq (.reg [] [(jm 10 8), (jm 5 10)] []) A152s2_4)) A152s2_6)
def A152s2_2 : AC := (.seq (.cond (.t 9) .skip (.exit 0)) A152s2_3)
def A152s2_1 : AC := (.seq (.reg [] [((jv 9 (.bin .lss (.t 8) (.t 7))))] []) A152s2_2)
def A152s2_7 : AC := (.seq (.reg [] [((jv 4 (.mov (jn (-1)))))] []) .ret)
def A152s2_9 : AC := (.block 0 (.loop A152s2_1))
def A152s2_8 : AC := (.seq (.seq (.reg [] [(jm 6 0), ((jv 7 (.len (.t 6)))), ((jv 8 (.mov (jn 0))))] []) A152s2_9) A152s2_7)
def A152s2 : AC := (.seq (.reg [] [((jv 4 (.mov (jn 0))))] []) A152s2_8)
def an152s2 : List An := []
theorem c152s2 : cC Try.prog Try.f152.ntmps an152s2 (Try.f152.body.getD .skip) = some A152s2 := by kernel_rfl
structure H152s2 (D : Den) (σ : Sig) (F : Nat) : Prop where
  c92 : ∀ (x0 : (List Int)) (x1 : (Rf Int)) r, i_BrambleCover_1 F x0 x1 = some r → D 92 [Enc.enc x0, Arg.arg x1] = some (Enc.enc (r : Bool))
  g92 : σ 92 = some (0, false)
abbrev R152s2 (r : Int) : (Nat → V) → Prop := RR Try.prog [.tmp 4] 0 false (Enc.enc (r : Int))
section
variable {D : Den} {σ : Sig} {F : Nat} {r : Int}
def slices_IndexFunc_int_int_of_i_BrambleCover_1_l1 (F : Nat) (x_1 : (List (List Int))) (x_2 : (Cl 92 Unit ((Rf Int) × Unit)))  : Nat → Int → Option Int
  | 0, _ => none
  | k + 1, x_5 =>
    bif decide (x_5 < (x_1.length : Int)) then
      (idx x_1 x_5).bind fun e_8 =>
      (i_BrambleCover_1 F e_8 x_2.env.1).bind fun r_9 =>
      bif r_9 then
        some x_5
      else
        (slices_IndexFunc_int_int_of_i_BrambleCover_1_l1 F x_1 x_2 k) (w64 (x_5 + 1))
    else
      some (-1)
theorem t_f152s2_l1 (H : H152s2 D σ F) (x_1 : (List (List Int))) (x_2 : (Cl 92 Unit ((Rf Int) × Unit)))  : ∀ (k : Nat) (x_5 : Int) (s : Nat → V), Facts [(0, (Enc.enc (x_1 : List (List Int)))), (1, (.fn 92 [] [(.ref .sh 0 [] (ji x_2.env.1.v))])), (4, (ji 0)), (7, (ji (x_1.length : Int))), (8, (ji x_5))] s → slices_IndexFunc_int_int_of_i_BrambleCover_1_l1 F x_1 x_2 k x_5 = some r → Run D σ (R152s2 r) (.run A152s2_1 [.lp A152s2_1, .bk 0, .sq A152s2_7]) s := by
  intro k
  induction k with
  | zero => intro x_5 s _ h; exact nomatch (h : (none : Option _) = some r)
  | succ k ih =>
    intro x_5 s hs h
    rw [slices_IndexFunc_int_int_of_i_BrambleCover_1_l1] at h
    obtain ⟨h0, h1, h4, h7, h8⟩ := hs
    refine .seq (rg (g2 8 7 (jb (decide (x_5 < (x_1.length : Int)))) h8 h7 fun h9 => ?_))
    refine gq (.nsq (.seq (run_cond (t := decide (x_5 < (x_1.length : Int))) h9 h (fun h => ?_) (fun h => ?_))))
    · refine .skip (.nsq (.seq (.block (.seq (rg (gm h8 fun h10 => gm h10 fun h5 => gq (.nsq (.seq (rg (gm h1 fun h11 => gm h0 fun h12 => gm h5 fun h13 => ?_))))))))))
      obtain ⟨e_8, E_e_8, h⟩ := bind_some h
      refine gv (.ref .sh 0 [] (eL e_8)) (ev_idx (t := .sh) (lo := 0) (xs := x_1) h12 h13 E_e_8 rfl rfl) fun h14 => ?_
      refine g1 14 (eL e_8) h14 fun h15 => ?_
      obtain ⟨r_9, E_r_9, h⟩ := bind_some h
      refine g_callF (m := 0) (al := false) (r := (Enc.enc (r_9 : Bool))) (fs := []) (env := [(.ref .sh 0 [] (ji x_2.env.1.v))]) (us := []) (ws := [Arg.arg (x_2.env.1 : (Rf Int))]) h11 erases_nil (erases_cons (erase_ref rfl) erases_nil) rfl [Enc.enc (e_8 : (List Int))] (ta_cons (v := (eL e_8)) h15 rfl (Enc.erase_enc (e_8 : (List Int))) ta_nil) (H.c92 _ _ _ E_r_9) H.g92 rfl rfl rfl rfl ?_
      refine gq (.nsq (run_cond (t := r_9) rfl h (fun h => ?_) (fun h => ?_)))
      · refine .seq (rg (gm h5 fun h17 => gm h17 fun h4 => gq (.nsq (.ret ?_))))
        have hr := Option.some.inj h
        subst hr
        exact rrA (res_tmp h4) rfl
      refine .skip (.nbk (.nsq (rg (g1 8 (ji (w64 (x_5 + 1))) h8 fun h18 => ?_))))
      refine gm h18 fun h8 => gq (.nlp ?_)
      exact ih (w64 (x_5 + 1)) _ ⟨h0, h1, h4, h7, h8⟩ h
    refine .exit (.esq (.elp (.ebk (.nsq (.seq (rg (g0 (ji (-1)) fun h4 => ?_)))))))
    refine gq (.nsq (.ret ?_))
    have hr := Option.some.inj h
    subst hr
    exact rrA (res_tmp h4) rfl
def slices_IndexFunc_int_int_of_i_BrambleCover_1 (F : Nat) (x_1 : (List (List Int))) (x_2 : (Cl 92 Unit ((Rf Int) × Unit))) : Option Int :=
  slices_IndexFunc_int_int_of_i_BrambleCover_1_l1 F x_1 x_2 F 0
theorem t152s2 (H : H152s2 D σ F) (x_1 : (List (List Int))) (x_2 : (Cl 92 Unit ((Rf Int) × Unit))) (s : Nat → V) (hs : Facts [(0, (Enc.enc (x_1 : List (List Int)))), (1, (.fn 92 [] [(.ref .sh 0 [] (ji x_2.env.1.v))]))] s) (h : slices_IndexFunc_int_int_of_i_BrambleCover_1 F x_1 x_2 = some r) : Run D σ (R152s2 r) (.run A152s2 []) s := by
  unfold slices_IndexFunc_int_int_of_i_BrambleCover_1 at h
  obtain ⟨h0, h1⟩ := hs
  refine .seq (rg (g0 (ji 0) fun h4 => gq (.nsq (.seq (.seq (rg (gm h0 fun h6 => gv (ji (x_1.length : Int)) (ev_len (xs := x_1) h6) fun h7 => ?_)))))))
  refine g0 (ji 0) fun h8 => gq (.nsq (.block (.loop ?_)))
  exact t_f152s2_l1 H x_1 x_2 F 0 _ ⟨h0, h1, h4, h7, h8⟩ h
end
def e152s2 (F : Nat) : Ent := ent 152 (fun (x : ((List (List Int)) × (Cl 92 Unit ((Rf Int) × Unit)) × Unit)) => slices_IndexFunc_int_int_of_i_BrambleCover_1 F x.1 x.2.1) (fun (r : Int) => (Enc.enc (r : Int))) 0 false [(1, 92)]
theorem p152s2 {F : Nat} {x0 : (List (List Int))} {x1 : (Cl 92 Unit ((Rf Int) × Unit))} {r : Int} (h : slices_IndexFunc_int_int_of_i_BrambleCover_1 F x0 x1 = some r) : (e152s2 F).den [Enc.enc x0, Arg.arg x1] = some (Enc.enc (r : Int)) := ent_put (x0, x1, ()) h
theorem o152s2 {D : Den} {σ : Sig} {F : Nat} (hF : Fits2 Try.prog D σ) (H : H152s2 D σ F) : (e152s2 F).Ok Try.prog := by
  refine ok_of (f := 152) (show unk 152 = 152 from rfl) (fun args r h => ?_) ⟨Try.f152, Try.func152, rfl, rfl⟩
  obtain ⟨⟨x0, x1, _⟩, y, rfl, hy, rfl⟩ := da_open h
  exact contract_run hF (by kernel_rfl) Try.func152 rfl c152s2 (show 2 ≤ Try.f152.ntmps by decide) (t152s2 H x0 x1 _ ⟨rfl, rfl⟩ hy)
/- slices.ContainsFunc[[][]int,[]int] -/
def A91s2_1 : AC := (.seq (.reg [] [(jm 5 0), (jm 6 1), (.mk (some 7) none false (.call (.k (.fn 152 [] [])) [(.t 5), (.t 6)])), ((jv 8 (.bin .geq (.t 7) (jn 0)))), (jm 4 8)] []) .ret)
def A91s2 : AC := (.seq (.reg [] [((jv 4 (.mov (.k (.bool false)))))] []) A91s2_1)
def an91s2 : List An := []
theorem c91s2 : cC Try.prog Try.f91.ntmps an91s2 (Try.f91.body.getD .skip) = some A91s2 := by kernel_rfl
structure H91s2 (D : Den) (σ : Sig) (F : Nat) : Prop where
  c152s2 : ∀ (x0 : (List (List Int))) (x1 : (Cl 92 Unit ((Rf Int) × Unit))) r, slices_IndexFunc_int_int_of_i_BrambleCover_1 F x0 x1 = some r → D 152 [Enc.enc x0, Arg.arg x1] = some (Enc.enc (r : Int))
  g152s2 : σ 152 = some (0, false)
abbrev R91s2 (r : Bool) : (Nat → V) → Prop := RR Try.prog [.tmp 4] 0 false (Enc.enc (r : Bool))
section
variable {D : Den} {σ : Sig} {F : Nat} {r : Bool}
def slices_ContainsFunc_int_int_of_i_BrambleCover_1 (F : Nat) (x_1 : (List (List Int))) (x_2 : (Cl 92 Unit ((Rf Int) × Unit))) : Option Bool :=
  (slices_IndexFunc_int_int_of_i_BrambleCover_1 F x_1 x_2).bind fun r_3 =>
  some (decide (r_3 ≥ 0))
theorem t91s2 (H : H91s2 D σ F) (x_1 : (List (List Int))) (x_2 : (Cl 92 Unit ((Rf Int) × Unit))) (s : Nat → V) (hs : Facts [(0, (Enc.enc (x_1 : List (List Int)))), (1, (.fn 92 [] [(.ref .sh 0 [] (ji x_2.env.1.v))]))] s) (h : slices_ContainsFunc_int_int_of_i_BrambleCover_1 F x_1 x_2 = some r) : Run D σ (R91s2 r) (.run A91s2 []) s := by
  unfold slices_ContainsFunc_int_int_of_i_BrambleCover_1 at h
  obtain ⟨h0, h1⟩ := hs
  refine .seq (rg (g0 (jb false) fun h4 => ?_))
  refine gq (.nsq (.seq (rg (gm h0 fun h5 => gm h1 fun h6 => ?_))))
  obtain ⟨r_3, E_r_3, h⟩ := bind_some h
  refine g_call (m := 0) (al := false) (r := (Enc.enc (r_3 : Int))) [Enc.enc (x_1 : (List (List Int))), Arg.arg (x_2 : (Cl 92 Unit ((Rf Int) × Unit)))] (ta_cons (v := (Enc.enc (x_1 : List (List Int)))) h5 rfl (Enc.erase_enc (x_1 : (List (List Int)))) (ta_cons (v := (.fn 92 [] [(.ref .sh 0 [] (ji x_2.env.1.v))])) h6 rfl (erase_fn erases_nil (erases_cons (erase_ref rfl) erases_nil)) ta_nil)) (H.c152s2 _ _ _ E_r_3) H.g152s2 rfl rfl rfl rfl ?_
  refine g1 7 (jb (decide (r_3 ≥ 0))) (rfl : (_ : V) = (ji r_3)) fun h8 => ?_
  refine gm h8 fun h4 => gq (.nsq (.ret ?_))
  have hr := Option.some.inj h
  subst hr
  exact rrA (res_tmp h4) rfl
end
def e91s2 (F : Nat) : Ent := ent 91 (fun (x : ((List (List Int)) × (Cl 92 Unit ((Rf Int) × Unit)) × Unit)) => slices_ContainsFunc_int_int_of_i_BrambleCover_1 F x.1 x.2.1) (fun (r : Bool) => (Enc.enc (r : Bool))) 0 false [(1, 92)]
theorem p91s2 {F : Nat} {x0 : (List (List Int))} {x1 : (Cl 92 Unit ((Rf Int) × Unit))} {r : Bool} (h : slices_ContainsFunc_int_int_of_i_BrambleCover_1 F x0 x1 = some r) : (e91s2 F).den [Enc.enc x0, Arg.arg x1] = some (Enc.enc (r : Bool)) := ent_put (x0, x1, ()) h
theorem o91s2 {D : Den} {σ : Sig} {F : Nat} (hF : Fits2 Try.prog D σ) (H : H91s2 D σ F) : (e91s2 F).Ok Try.prog := by
  refine ok_of (f := 91) (show unk 91 = 91 from rfl) (fun args r h => ?_) ⟨Try.f91, Try.func91, rfl, rfl⟩
  obtain ⟨⟨x0, x1, _⟩, y, rfl, hy, rfl⟩ := da_open h
  exact contract_run hF (by kernel_rfl) Try.func91 rfl c91s2 (show 2 ≤ Try.f91.ntmps by decide) (t91s2 H x0 x1 _ ⟨rfl, rfl⟩ hy)
/- loop.example/g01109/impl.setOf -/
def A83o_2 : AC := (.cond (.t 8) .skip (.exit 0))
def A83o_4 : AC := (.cond (.t 15) (.reg [.clr [18, 19]] [(jm 16 3), (jm 17 4), (.mk (some 18) none false (.lit (.int .i64 (.ofNat 0)) 1 [(0, 0, (.t 17))])), (.mk (some 19) none false (.app .s (.t 16) (.t 18))), (jm 3 19)] [.home 19 3]) .skip)
def A83o_5 : AC := (.reg [] [(jm 9 4), ((jv 10 (.bin .add (.t 9) (jn 1)))), (jm 4 10)] [])
def A83o_3 : AC := (.seq (.block 1 (.seq (.reg [] [(jm 11 0), (jm 12 4), ((jv 13 (.bin .shr (.t 11) (.t 12)))), ((jv 14 (.bin .and (.t 13) (jn 1)))), ((jv 15 (.bin .eql (.t 14) (jn 1))))] []) A83o_4)) A83o_5)
def A83o_1 : AC := (.seq (.seq (.reg [] [(jm 5 0), (jm 6 4), ((jv 7 (.bin .shr (.t 5) (.t 6)))), ((jv 8 (.bin .neq (.t 7) (jn 0))))] []) A83o_2) A83o_3)
def A83o_6 : AC := (.seq (.reg [] [(jm 20 3), (jm 2 20)] [.home 3 2]) .ret)
def A83o_9 : AC := (.block 0 (.loop A83o_1))
def A83o_8 : AC := (.seq (.seq (.reg [] [((jv 4 (.mov (jn 0))))] []) A83o_9) A83o_6)
def A83o_7 : AC := (.seq (.reg [] [((jv 3 (.mov (.k (.sl .nl .s 0 [])))))] []) A83o_8)
def A83o : AC := (.seq (.reg [] [((jv 2 (.mov (.k (.sl .nl .s 0 [])))))] []) A83o_7)
def an83o : List An := [{ id := 6, pre := [.clr [18, 19]], ep := [.home 19 3], lin := [], sp := [] }, { id := 7, pre := [], ep := [.home 3 2], lin := [], sp := [] }]
theorem c83o : cC Try.prog Try.f83.ntmps an83o (Try.f83.body.getD .skip) = some A83o := by kernel_rfl
structure H83o (D : Den) (σ : Sig) (F : Nat) : Prop where
  mk ::
abbrev R83o (r : (NL Int)) : (Nat → V) → Prop := RR Try.prog [.tmp 2] 1 false (encO .sh (r : NL Int))
section
variable {D : Den} {σ : Sig} {F : Nat} {r : (NL Int)}
def i_setOf_o_j1 (F : Nat) (x_1 : Int) (x_8 : Int) (c1 : (NL Int) → Int → Option (NL Int)) (x_17 : (NL Int)) : Option (NL Int) :=
  c1 x_17 (w64 (x_8 + 1))
theorem t_f83o_j1 (H : H83o D σ F) (x_1 : Int) (x_8 : Int) (c1 : (NL Int) → Int → Option (NL Int)) (Hc1 : ∀ (x_7 : (NL Int)) (x_8 : Int) (s : Nat → V), Facts [(0, (ji x_1)), (2, (.sl .nl (Enc.shp Int) 0 [])), (3, (oI 3 [] x_7)), (4, (ji x_8))] s → c1 x_7 x_8 = some r → Run D σ (R83o r) (.run A83o_1 [.lp A83o_1, .bk 0, .sq A83o_6]) s) (x_17 : (NL Int)) (s : Nat → V) (hs : Facts [(0, (ji x_1)), (2, (.sl .nl (Enc.shp Int) 0 [])), (3, (oI 3 [] x_17)), (4, (ji x_8))] s) (h : i_setOf_o_j1 F x_1 x_8 c1 x_17 = some r) : Run D σ (R83o r) (.nrm [.bk 1, .sq A83o_5, .lp A83o_1, .bk 0, .sq A83o_6]) s := by
  unfold i_setOf_o_j1 at h
  obtain ⟨h0, h2, h3, h4⟩ := hs
  refine .nbk (.nsq (rg (gm h4 fun h9 => g1 9 (ji (w64 (x_8 + 1))) h9 fun h10 => ?_)))
  refine gm h10 fun h4 => gq (.nlp ?_)
  exact Hc1 x_17 (w64 (x_8 + 1)) _ ⟨h0, h2, h3, h4⟩ h
def i_setOf_o_l1 (F : Nat) (x_1 : Int)  : Nat → (NL Int) → Int → Option (NL Int)
  | 0, _, _ => none
  | k + 1, x_7, x_8 =>
    (shrI .i64 x_1 x_8).bind fun q_14 =>
    bif (q_14 != 0) then
      (shrI .i64 x_1 x_8).bind fun q_15 =>
      bif ((iand .i64 q_15 1) == 1) then
        (appL x_7.list [x_8]).bind fun ap_18 =>
        i_setOf_o_j1 F x_1 x_8 (i_setOf_o_l1 F x_1 k) (.of ap_18)
      else
        i_setOf_o_j1 F x_1 x_8 (i_setOf_o_l1 F x_1 k) x_7
    else
      some x_7
theorem t_f83o_l1 (H : H83o D σ F) (x_1 : Int)  : ∀ (k : Nat) (x_7 : (NL Int)) (x_8 : Int) (s : Nat → V), Facts [(0, (ji x_1)), (2, (.sl .nl (Enc.shp Int) 0 [])), (3, (oI 3 [] x_7)), (4, (ji x_8))] s → i_setOf_o_l1 F x_1 k x_7 x_8 = some r → Run D σ (R83o r) (.run A83o_1 [.lp A83o_1, .bk 0, .sq A83o_6]) s := by
  intro k
  induction k with
  | zero => intro x_7 x_8 s _ h; exact nomatch (h : (none : Option _) = some r)
  | succ k ih =>
    intro x_7 x_8 s hs h
    rw [i_setOf_o_l1] at h
    obtain ⟨h0, h2, h3, h4⟩ := hs
    refine .seq (.seq (rg (gm h0 fun h5 => gm h4 fun h6 => ?_)))
    obtain ⟨q_14, E_q_14, h⟩ := bind_some h
    refine gv (ji q_14) (ev_shr h5 h6 E_q_14) fun h7 => ?_
    refine g1 7 (jb (q_14 != 0)) h7 fun h8 => ?_
    refine gq (.nsq (run_cond (t := (q_14 != 0)) h8 h (fun h => ?_) (fun h => ?_)))
    · refine .skip (.nsq (.seq (.block (.seq (rg (gm h0 fun h11 => gm h4 fun h12 => ?_))))))
      obtain ⟨q_15, E_q_15, h⟩ := bind_some h
      refine gv (ji q_15) (ev_shr h11 h12 E_q_15) fun h13 => ?_
      refine g1 13 (ji (iand .i64 q_15 1)) h13 fun h14 => ?_
      refine g1 14 (jb ((iand .i64 q_15 1) == 1)) h14 fun h15 => ?_
      refine gq (.nsq (run_cond (t := ((iand .i64 q_15 1) == 1)) h15 h (fun h => ?_) (fun h => ?_)))
      · refine run_reg ?_
        refine e_clr ?_
        refine ez [(0, _), (2, _), (3, _), (4, _), (18, _), (19, _)] ⟨(keep_clear (pk := [18, 19]) h0 rfl mi), (keep_clear (pk := [18, 19]) h2 rfl rfl), (keep_clear (pk := [18, 19]) h3 rfl (map_encO (r := 3) (p := []) rfl rfl)), (keep_clear (pk := [18, 19]) h4 rfl mi), (gone_clear (pk := [18, 19]) (t := 18) rfl), (gone_clear (pk := [18, 19]) (t := 19) rfl)⟩ ?_
        rintro s ⟨h0, h2, h3, h4, h18, h19⟩
        refine gv (oI 3 [] x_7) (ev_mov h3 ok_encO) fun h16 => ?_
        refine gm h4 fun h17 => g_litL [(17, (ji x_8))] [Enc.enc (x_8 : Int)] h17 rfl rfl h18 ?_
        obtain ⟨ap_18, E_ap_18, h⟩ := bind_some h
        refine g_app (q := 3) (p := []) (o := (x_7 : NL Int)) (ys := ([x_8] : List Int)) (t2 := (.at 18 [])) (lo2 := 0) h16 rfl rfl h19 (appN_L (o := (x_7 : NL Int)) E_ap_18 (by split <;> simp)) (fun s_17 ha_17 => ?_)
        refine gm (rfl : (_ : V) = (oI 19 [] (.of ap_18))) fun h3 => ?_
        refine g_end ?_
        refine e_home (r := 19) (x := 3) (v := _) h3 rfl (fun s_18 hg_18 => ?_)
        refine ez [(0, (ji x_1)), (2, (.sl .nl (Enc.shp Int) 0 [])), (3, (oI 3 [] (.of ap_18))), (4, (ji x_8))] ⟨(hg_18 0 _ _ (show s_17 0 = (ji x_1) from keep_app ha_17 h0 mi) mi), (hg_18 2 _ (.sl .nl (Enc.shp Int) 0 []) (show s_17 2 = (.sl .nl (Enc.shp Int) 0 []) from keep_app ha_17 h2 rfl) rfl), (hg_18 3 _ _ h3 (map_encO (r := 19) (p := []) rfl rfl)), (hg_18 4 _ _ (show s_17 4 = (ji x_8) from keep_app ha_17 h4 mi) mi)⟩ ?_
        rintro s ⟨h0, h2, h3, h4⟩
        exact t_f83o_j1 H x_1 x_8 (i_setOf_o_l1 F x_1 k) ih (.of ap_18) _ ⟨h0, h2, h3, h4⟩ h
      refine .skip ?_
      exact t_f83o_j1 H x_1 x_8 (i_setOf_o_l1 F x_1 k) ih x_7 _ ⟨h0, h2, h3, h4⟩ h
    refine .exit (.esq (.elp (.ebk (.nsq (.seq (rg (gv (oI 3 [] x_7) (ev_mov h3 ok_encO) fun h20 => ?_)))))))
    refine gv (oI 3 [] x_7) (ev_mov h20 ok_encO) fun h2 => ?_
    refine g_end ?_
    refine e_home (r := 3) (x := 2) (v := _) h2 ok_encO (fun s_19 hg_19 => ?_)
    refine ez [(2, (oI 2 [] x_7))] (hg_19 2 _ _ h2 (map_encO (r := 3) (p := []) rfl rfl)) ?_
    rintro s h2
    refine .nsq (.ret ?_)
    have hr := Option.some.inj h
    subst hr
    exact rrA (res_tmp h2) (fin_retO (finO_own (o := (x_7 : NL Int))) rfl (mine_own rfl))
def i_setOf_o (F : Nat) (x_1 : Int) : Option (NL Int) :=
  i_setOf_o_l1 F x_1 F .nil 0
theorem t83o (H : H83o D σ F) (x_1 : Int) (s : Nat → V) (hs : Facts [(0, (ji x_1))] s) (h : i_setOf_o F x_1 = some r) : Run D σ (R83o r) (.run A83o []) s := by
  unfold i_setOf_o at h
  have h0 := hs
  refine .seq (rg (g0 (.sl .nl (Enc.shp Int) 0 []) fun h2 => ?_))
  refine gq (.nsq (.seq (rg (g0 (.sl .nl (Enc.shp Int) 0 []) fun h3 => ?_))))
  refine gq (.nsq (.seq (.seq (rg (g0 (ji 0) fun h4 => gq (.nsq (.block (.loop ?_))))))))
  exact t_f83o_l1 H x_1 F .nil 0 _ ⟨h0, h2, h3, h4⟩ h
end
def e83o (F : Nat) : Ent := ent 1000000083 (fun (x : (Int × Unit)) => i_setOf_o F x.1) (fun (r : (NL Int)) => (encO .sh (r : NL Int))) 1 false []
theorem p83o {F : Nat} {x0 : Int} {r : (NL Int)} (h : i_setOf_o F x0 = some r) : (e83o F).den [Enc.enc x0] = some (encO .sh (r : NL Int)) := ent_put (x0, ()) h
theorem o83o {D : Den} {σ : Sig} {F : Nat} (hF : Fits2 Try.prog D σ) (H : H83o D σ F) : (e83o F).Ok Try.prog := by
  refine ok_of (f := 83) (show unk 1000000083 = 83 from rfl) (fun args r h => ?_) ⟨Try.f83, Try.func83, rfl, rfl⟩
  obtain ⟨⟨x0, _⟩, y, rfl, hy, rfl⟩ := da_open h
  exact contract_run hF (by kernel_rfl) Try.func83 rfl c83o (show 1 ≤ Try.f83.ntmps by decide) (t83o H x0 _ rfl hy)
/- loop.example/g01109/impl.BrambleCover -/
def A40o_7 : AC := (.cond (.t 54) (.exit 1) .skip)
def A40o_8 : AC := (.reg [] [(jm 55 9), (jm 6 55), ((jv 7 (.mov (.k (.bool true)))))] [.home 9 6])
def A40o_6 : AC := (.seq (.seq (.reg [] [(jm 31 10), (jm 32 31), ((jg 33 32 false (.mov (.t 7)))), ((jg 34 32 false (.mov (.t 33)))), ((jg 35 34 true (.mov (.t 9)))), ((jg 36 34 true (.len (.t 35)))), ((jg 37 34 true (.mov (.t 6)))), ((jg 38 34 true (.len (.t 37)))), ((jg 39 34 true (.bin .gtr (.t 36) (.t 38)))), ((jg 40 34 true (.mov (.t 39)))), ((jg 41 40 false (.mov (.t 9)))), ((jg 42 40 false (.len (.t 41)))), ((jg 43 40 false (.mov (.t 6)))), ((jg 44 40 false (.len (.t 43)))), ((jg 45 40 false (.bin .eql (.t 42) (.t 44)))), ((jg 46 40 false (.mov (.t 45)))), ((jg 47 46 true (.mov (.t 9)))), ((jg 48 46 true (.mov (.t 6)))), (.mk (some 49) (some (46, true)) false (.call (.k (.fn 94 [] [])) [(.t 47), (.t 48)])), ((jg 50 46 true (.bin .geq (.t 49) (jn 0)))), ((jg 51 40 false (.pick (.t 46) (.t 50) (.k (.bool false))))), ((jg 52 34 true (.pick (.t 40) (.k (.bool true)) (.t 51)))), ((jg 53 32 false (.pick (.t 34) (.t 52) (.k (.bool false))))), ((jv 54 (.pick (.t 32) (.k (.bool true)) (.t 53))))] []) A40o_7) A40o_8)
def A40o_5 : AC := (.seq (.reg [] [(jm 28 1), ((jv 29 (.fn 92 [] [(.t 8)]))), (.mk (some 30) none false (.call (.k (.fn 91 [] [])) [(.t 28), (.t 29)])), (jm 10 30)] []) A40o_6)
def A40o_4 : AC := (.seq (.reg [.clr [27]] [((jv 26 (.load .s (.t 8)))), (.mk (some 27) none false (.callO (.k (.fn 83 [] [])) [(.t 26)])), (jm 9 27)] [.home 27 9]) A40o_5)
def A40o_9 : AC := (.reg [] [((jv 56 (.bin .add (.t 23) (jn 1)))), (jm 23 56)] [])
def A40o_3 : AC := (.seq (.block 1 (.seq (.reg [.clr [8]] [(jm 25 23), (.mk (some 8) none false (.alloc (.int .i64 (.ofNat 0)))), (.mk none none false (.store .s (.t 8) (.t 25)))] []) A40o_4)) A40o_9)
def A40o_2 : AC := (.seq (.cond (.t 24) .skip (.exit 0)) A40o_3)
def A40o_1 : AC := (.seq (.reg [] [((jv 24 (.bin .lss (.t 23) (.t 22))))] []) A40o_2)
def A40o_10 : AC := (.seq (.reg [] [(jm 57 6), (jm 4 57), ((jv 5 (.mov (.k (.bool true)))))] [.home 6 4]) .ret)
def A40o_11 : AC := (.cond (.t 19) (.seq (.reg [] [((jv 4 (.mov (.k (.sl .nl .s 0 []))))), ((jv 5 (.mov (.k (.bool false)))))] []) .ret) .skip)
def A40o_15 : AC := (.block 0 (.loop A40o_1))
def A40o_14 : AC := (.seq (.seq (.reg [] [((jv 20 (.fld (.t 2) 0 0))), ((jv 21 (.load .s (.t 20)))), ((jv 22 (.bin .shl (jn 1) (.t 21)))), ((jv 23 (.mov (jn 0))))] []) A40o_15) A40o_10)
def A40o_13 : AC := (.seq (.reg [] [((jv 7 (.mov (.k (.bool false)))))] []) A40o_14)
def A40o_12 : AC := (.seq (.reg [] [((jv 6 (.mov (.k (.sl .nl .s 0 [])))))] []) A40o_13)
def A40o_16 : AC := (.seq (.seq (.reg [] [((jv 11 (.load (.ag [.s, .p]) (.t 2)))), (.mk (some 12) none false (.call (.k (.fn 63 [] [])) [(.t 11)])), ((jv 13 (.un .not (.t 12)))), (jm 14 13), ((jg 15 14 false (.load (.ag [.s, .p]) (.t 2)))), ((jg 16 14 false (.mov (.t 1)))), (.mk (some 17) (some (14, false)) false (.call (.k (.fn 90 [] [])) [(.t 15), (.t 16)])), ((jg 18 14 false (.un .not (.t 17)))), ((jv 19 (.pick (.t 14) (.k (.bool true)) (.t 18))))] []) A40o_11) A40o_12)
def A40o : AC := (.seq (.reg [.clr [2]] [(.mk (some 2) none false (.box (.t 0))), ((jv 4 (.mov (.k (.sl .nl .s 0 []))))), ((jv 5 (.mov (.k (.bool false)))))] []) A40o_16)
def an40o : List An := [{ id := 0, pre := [.clr [2]], ep := [], lin := [], sp := [] }, { id := 7, pre := [.clr [8]], ep := [], lin := [], sp := [] }, { id := 8, pre := [.clr [27]], ep := [.home 27 9], lin := [], sp := [1001] }, { id := 11, pre := [], ep := [.home 9 6], lin := [], sp := [] }, { id := 13, pre := [], ep := [.home 6 4], lin := [], sp := [] }]
theorem c40o : cC Try.prog Try.f40.ntmps an40o (Try.f40.body.getD .skip) = some A40o := by kernel_rfl
structure H40o (D : Den) (σ : Sig) (F : Nat) : Prop where
  c63 : ∀ (x0 : (Int × (List (Int × Int)))) r, i_IsGraph F x0 = some r → D 63 [Enc.enc x0] = some (Enc.enc (r : Bool))
  g63 : σ 63 = some (0, false)
  c90 : ∀ (x0 : (Int × (List (Int × Int)))) (x1 : (List (List Int))) r, i_isBramble F x0 x1 = some r → D 90 [Enc.enc x0, Enc.enc x1] = some (Enc.enc (r : Bool))
  g90 : σ 90 = some (0, false)
  c83o : ∀ (x0 : Int) r, i_setOf_o F x0 = some r → D 1000000083 [Enc.enc x0] = some (encO .sh (r : NL Int))
  g83o : σ 1000000083 = some (1, false)
  c91s2 : ∀ (x0 : (List (List Int))) (x1 : (Cl 92 Unit ((Rf Int) × Unit))) r, slices_ContainsFunc_int_int_of_i_BrambleCover_1 F x0 x1 = some r → D 91 [Enc.enc x0, Arg.arg x1] = some (Enc.enc (r : Bool))
  g91s2 : σ 91 = some (0, false)
  c94 : ∀ (x0 : (List Int)) (x1 : (List Int)) r, slices_Compare F x0 x1 = some r → D 94 [Enc.enc x0, Enc.enc x1] = some (Enc.enc (r : Int))
  g94 : σ 94 = some (0, false)
abbrev R40o (r : ((NL Int) × Bool)) : (Nat → V) → Prop := RR Try.prog [.tmp 4, .tmp 5] 1 false (.tup [(encO .sh (r.1 : NL Int)), (Enc.enc (r.2 : Bool))])
section
variable {D : Den} {σ : Sig} {F : Nat} {r : ((NL Int) × Bool)}
def i_BrambleCover_o_j1 (F : Nat) (x_2 : (List (List Int))) (x_10 : (NL Int)) (r_19 : (NL Int)) (q_6 : Int) (x_12 : Int) (c1 : (NL Int) → Bool → Int → Option ((NL Int) × Bool)) (x_22 : Bool) (x_23 : Bool) : Option ((NL Int) × Bool) :=
  bif x_23 then
    c1 x_10 x_22 (w64 (x_12 + 1))
  else
    c1 r_19 true (w64 (x_12 + 1))
theorem t_f40o_j1 (H : H40o D σ F) (x_2 : (List (List Int))) (x_10 : (NL Int)) (r_19 : (NL Int)) (q_6 : Int) (x_12 : Int) (c1 : (NL Int) → Bool → Int → Option ((NL Int) × Bool)) (Hc1 : ∀ (x_10 : (NL Int)) (x_11 : Bool) (x_12 : Int) (s : Nat → V), Facts [(1, (Enc.enc (x_2 : List (List Int)))), (4, (.sl .nl (Enc.shp Int) 0 [])), (5, (jb false)), (6, (oI 6 [] x_10)), (7, (jb x_11)), (22, (ji q_6)), (23, (ji x_12))] s → c1 x_10 x_11 x_12 = some r → Run D σ (R40o r) (.run A40o_1 [.lp A40o_1, .bk 0, .sq A40o_10]) s) (x_22 : Bool) (x_23 : Bool) (s : Nat → V) (hs : Facts [(1, (Enc.enc (x_2 : List (List Int)))), (4, (.sl .nl (Enc.shp Int) 0 [])), (5, (jb false)), (6, (oI 6 [] x_10)), (7, (jb x_22)), (9, (oI 9 [] r_19)), (22, (ji q_6)), (23, (ji x_12)), (54, (jb x_23))] s) (h : i_BrambleCover_o_j1 F x_2 x_10 r_19 q_6 x_12 c1 x_22 x_23 = some r) : Run D σ (R40o r) (.nrm [.sq A40o_7, .sq A40o_8, .bk 1, .sq A40o_9, .lp A40o_1, .bk 0, .sq A40o_10]) s := by
  unfold i_BrambleCover_o_j1 at h
  obtain ⟨h1, h4, h5, h6, h7, h9, h22, h23, h54⟩ := hs
  refine .nsq (run_cond (t := x_23) h54 h (fun h => ?_) (fun h => ?_))
  · refine .exit (.esq (.ebk (.nsq (rg (g1 23 (ji (w64 (x_12 + 1))) h23 fun h56 => ?_)))))
    refine gm h56 fun h23 => gq (.nlp ?_)
    exact Hc1 x_10 x_22 (w64 (x_12 + 1)) _ ⟨h1, h4, h5, h6, h7, h22, h23⟩ h
  refine .skip (.nsq (rg (gv (oI 9 [] r_19) (ev_mov h9 ok_encO) fun h55 => ?_)))
  refine gv (oI 9 [] r_19) (ev_mov h55 ok_encO) fun h6 => ?_
  refine g0 (jb true) fun h7 => ?_
  refine g_end ?_
  refine e_home (r := 9) (x := 6) (v := _) h6 ok_encO (fun s_13 hg_13 => ?_)
  refine ez [(1, (Enc.enc (x_2 : List (List Int)))), (4, (.sl .nl (Enc.shp Int) 0 [])), (5, (jb false)), (6, (oI 6 [] r_19)), (7, (jb true)), (22, (ji q_6)), (23, (ji x_12))] ⟨(hg_13 1 _ _ h1 me), (hg_13 4 _ (.sl .nl (Enc.shp Int) 0 []) h4 rfl), (hg_13 5 _ _ h5 mb), (hg_13 6 _ _ h6 (map_encO (r := 9) (p := []) rfl rfl)), (hg_13 7 _ _ h7 mb), (hg_13 22 _ _ h22 mi), (hg_13 23 _ _ h23 mi)⟩ ?_
  rintro s ⟨h1, h4, h5, h6, h7, h22, h23⟩
  refine .nbk (.nsq (rg (g1 23 (ji (w64 (x_12 + 1))) h23 fun h56 => ?_)))
  refine gm h56 fun h23 => gq (.nlp ?_)
  exact Hc1 r_19 true (w64 (x_12 + 1)) _ ⟨h1, h4, h5, h6, h7, h22, h23⟩ h
def i_BrambleCover_o_l1 (F : Nat) (x_2 : (List (List Int))) (q_6 : Int)  : Nat → (NL Int) → Bool → Int → Option ((NL Int) × Bool)
  | 0, _, _, _ => none
  | k + 1, x_10, x_11, x_12 =>
    bif decide (x_12 < q_6) then
      (i_setOf_o F x_12).bind fun r_19 =>
      (slices_ContainsFunc_int_int_of_i_BrambleCover_1 F x_2 (Cl.mk () ((Rf.mk x_12 : (Rf Int)), ()) : (Cl 92 Unit ((Rf Int) × Unit)))).bind fun r_20 =>
      bif r_20 then
        i_BrambleCover_o_j1 F x_2 x_10 r_19 q_6 x_12 (i_BrambleCover_o_l1 F x_2 q_6 k) x_11 true
      else
        bif x_11 then
          bif decide ((r_19.list.length : Int) > (x_10.list.length : Int)) then
            i_BrambleCover_o_j1 F x_2 x_10 r_19 q_6 x_12 (i_BrambleCover_o_l1 F x_2 q_6 k) true true
          else
            bif ((r_19.list.length : Int) == (x_10.list.length : Int)) then
              (slices_Compare F r_19.list x_10.list).bind fun r_24 =>
              i_BrambleCover_o_j1 F x_2 x_10 r_19 q_6 x_12 (i_BrambleCover_o_l1 F x_2 q_6 k) true (decide (r_24 ≥ 0))
            else
              i_BrambleCover_o_j1 F x_2 x_10 r_19 q_6 x_12 (i_BrambleCover_o_l1 F x_2 q_6 k) true false
        else
          i_BrambleCover_o_j1 F x_2 x_10 r_19 q_6 x_12 (i_BrambleCover_o_l1 F x_2 q_6 k) false false
    else
      some (x_10, true)
theorem t_f40o_l1 (H : H40o D σ F) (x_2 : (List (List Int))) (q_6 : Int)  : ∀ (k : Nat) (x_10 : (NL Int)) (x_11 : Bool) (x_12 : Int) (s : Nat → V), Facts [(1, (Enc.enc (x_2 : List (List Int)))), (4, (.sl .nl (Enc.shp Int) 0 [])), (5, (jb false)), (6, (oI 6 [] x_10)), (7, (jb x_11)), (22, (ji q_6)), (23, (ji x_12))] s → i_BrambleCover_o_l1 F x_2 q_6 k x_10 x_11 x_12 = some r → Run D σ (R40o r) (.run A40o_1 [.lp A40o_1, .bk 0, .sq A40o_10]) s := by
  intro k
  induction k with
  | zero => intro x_10 x_11 x_12 s _ h; exact nomatch (h : (none : Option _) = some r)
  | succ k ih =>
    intro x_10 x_11 x_12 s hs h
    rw [i_BrambleCover_o_l1] at h
    obtain ⟨h1, h4, h5, h6, h7, h22, h23⟩ := hs
    refine .seq (rg (g2 23 22 (jb (decide (x_12 < q_6))) h23 h22 fun h24 => ?_))
    refine gq (.nsq (.seq (run_cond (t := decide (x_12 < q_6)) h24 h (fun h => ?_) (fun h => ?_))))
    · refine .skip (.nsq (.seq (.block (.seq (run_reg ?_)))))
      refine e_clr ?_
      refine ez [(1, _), (4, _), (5, _), (6, _), (7, _), (8, _), (22, _), (23, _)] ⟨(keep_clear (pk := [8]) h1 rfl me), (keep_clear (pk := [8]) h4 rfl rfl), (keep_clear (pk := [8]) h5 rfl mb), (keep_clear (pk := [8]) h6 rfl (map_encO (r := 6) (p := []) rfl rfl)), (keep_clear (pk := [8]) h7 rfl mb), (gone_clear (pk := [8]) (t := 8) rfl), (keep_clear (pk := [8]) h22 rfl mi), (keep_clear (pk := [8]) h23 rfl mi)⟩ ?_
      rintro s ⟨h1, h4, h5, h6, h7, h8, h22, h23⟩
      refine gm h23 fun h25 => g_alloc h8 ?_
      refine g_store (ji x_12) (rd_of rfl rfl) (rd_of h25 rfl) (by refine ⟨by decide, by decide, rfl, rfl, rfl, ?_⟩; first | rfl | simp [V.toks, V.tokss, Enc.toks_enc]) ?_
      refine gz [(1, (Enc.enc (x_2 : List (List Int)))), (4, (.sl .nl (Enc.shp Int) 0 [])), (5, (jb false)), (6, (oI 6 [] x_10)), (7, (jb x_11)), (8, (.ref (.bx 8) 0 [] (ji x_12))), (22, (ji q_6)), (23, (ji x_12))] ⟨(keep_mut h1 (Enc.mut_enc _ _ _ _ (x_2 : List (List Int)))), (keep_mut h4 rfl), (keep_mut h5 rfl), (keep_mut h6 (mut_own_ne rfl rfl)), (keep_mut h7 rfl), (keep_mut rfl rfl), (keep_mut h22 rfl), (keep_mut h23 rfl)⟩ ?_
      rintro s ⟨h1, h4, h5, h6, h7, h8, h22, h23⟩
      refine .nsq (.seq (run_reg ?_))
      refine e_clr ?_
      refine ez [(1, _), (4, _), (5, _), (6, _), (7, _), (8, _), (22, _), (23, _), (27, _)] ⟨(keep_clear (pk := [27]) h1 rfl me), (keep_clear (pk := [27]) h4 rfl rfl), (keep_clear (pk := [27]) h5 rfl mb), (keep_clear (pk := [27]) h6 rfl (map_encO (r := 6) (p := []) rfl rfl)), (keep_clear (pk := [27]) h7 rfl mb), (keep_clear (pk := [27]) h8 rfl (map_bx rfl mi)), (keep_clear (pk := [27]) h22 rfl mi), (keep_clear (pk := [27]) h23 rfl mi), (gone_clear (pk := [27]) (t := 27) rfl)⟩ ?_
      rintro s ⟨h1, h4, h5, h6, h7, h8, h22, h23, h27⟩
      refine g1 8 (ji x_12) h8 fun h26 => ?_
      obtain ⟨r_19, E_r_19, h⟩ := bind_some h
      refine g_callO (m := 1) (al := false) (r := (encO .sh (r_19 : NL Int))) (v := (oI 27 [] r_19)) (kk := 1000000083) [Enc.enc (x_12 : Int)] (ta_cons (v := (ji x_12)) h26 rfl rfl ta_nil) (H.c83o _ _ E_r_19) H.g83o rfl toks_encS tag_encO ok_encP h27 ?_
      refine gv (oI 27 [] r_19) (ev_mov rfl ok_encO) fun h9 => ?_
      refine g_end ?_
      refine e_home (r := 27) (x := 9) (v := _) h9 ok_encO (fun s_12 hg_12 => ?_)
      refine ez [(1, (Enc.enc (x_2 : List (List Int)))), (4, (.sl .nl (Enc.shp Int) 0 [])), (5, (jb false)), (6, (oI 6 [] x_10)), (7, (jb x_11)), (8, (.ref (.bx 8) 0 [] (ji x_12))), (9, (oI 9 [] r_19)), (22, (ji q_6)), (23, (ji x_12))] ⟨(hg_12 1 _ _ h1 me), (hg_12 4 _ (.sl .nl (Enc.shp Int) 0 []) h4 rfl), (hg_12 5 _ _ h5 mb), (hg_12 6 _ _ h6 (map_encO (r := 6) (p := []) rfl rfl)), (hg_12 7 _ _ h7 mb), (hg_12 8 _ _ h8 (map_bx rfl mi)), (hg_12 9 _ _ h9 (map_encO (r := 27) (p := []) rfl rfl)), (hg_12 22 _ _ h22 mi), (hg_12 23 _ _ h23 mi)⟩ ?_
      rintro s ⟨h1, h4, h5, h6, h7, h8, h9, h22, h23⟩
      refine .nsq (.seq (rg (gm h1 fun h28 => g1 8 (.fn 92 [] [(.ref (.bx 8) 0 [] (ji x_12))]) h8 fun h29 => ?_)))
      obtain ⟨r_20, E_r_20, h⟩ := bind_some h
      refine g_call (m := 0) (al := false) (r := (Enc.enc (r_20 : Bool))) [Enc.enc (x_2 : (List (List Int))), Arg.arg ((Cl.mk () ((Rf.mk x_12 : (Rf Int)), ()) : (Cl 92 Unit ((Rf Int) × Unit))) : (Cl 92 Unit ((Rf Int) × Unit)))] (ta_cons (v := (Enc.enc (x_2 : List (List Int)))) h28 rfl (Enc.erase_enc (x_2 : (List (List Int)))) (ta_cons (v := (.fn 92 [] [(.ref (.bx 8) 0 [] (ji x_12))])) h29 rfl (erase_fn erases_nil (erases_cons (erase_ref rfl) erases_nil)) ta_nil)) (H.c91s2 _ _ _ E_r_20) H.g91s2 rfl rfl rfl rfl ?_
      refine gm (rfl : (_ : V) = (jb r_20)) fun h10 => ?_
      refine gq (.nsq (.seq (.seq (rg (gm h10 fun h31 => gm h31 fun h32 => split_on (c := r_20) h (fun hg2 h => ?_) (fun hg2 h => ?_))))))
      · refine g_no (h32.trans (congrArg V.bool hg2)) ?_
        refine g_no (h32.trans (congrArg V.bool hg2)) ?_
        refine g_skip rfl ?_
        refine g_skip rfl ?_
        refine g_skip rfl ?_
        refine g_skip rfl ?_
        refine g_skip rfl ?_
        refine g_skip rfl ?_
        refine g_skip rfl ?_
        refine g_skip rfl ?_
        refine g_skip rfl ?_
        refine g_skip rfl ?_
        refine g_skip rfl ?_
        refine g_skip rfl ?_
        refine g_skip rfl ?_
        refine g_skip rfl ?_
        refine g_skip rfl ?_
        refine g_skip rfl ?_
        refine g_skip rfl ?_
        refine g_skip rfl ?_
        refine g_no (h32.trans (congrArg V.bool hg2)) ?_
        refine g2 32 53 (jb true) (h32.trans (congrArg V.bool hg2)) (rfl : (_ : V) = (.tup [])) fun h54 => ?_
        refine gq ?_
        exact t_f40o_j1 H x_2 x_10 r_19 q_6 x_12 (i_BrambleCover_o_l1 F x_2 q_6 k) ih x_11 true _ ⟨h1, h4, h5, h6, h7, h9, h22, h23, h54⟩ h
      refine g_yes (h32.trans (congrArg V.bool hg2)) (gm h7 fun h33 => ?_)
      refine g_yes (h32.trans (congrArg V.bool hg2)) (gm h33 fun h34 => ?_)
      refine split_on (c := x_11) h (fun hg4 h => ?_) (fun hg4 h => ?_)
      · refine g_yes (h34.trans (congrArg V.bool hg4)) (gv (oI 9 [] r_19) (ev_mov h9 ok_encO) fun h35 => ?_)
        refine g_yes (h34.trans (congrArg V.bool hg4)) (gv (ji (r_19.list.length : Int)) (ev_lenO (o := r_19) h35) fun h36 => ?_)
        refine g_yes (h34.trans (congrArg V.bool hg4)) (gv (oI 6 [] x_10) (ev_mov h6 ok_encO) fun h37 => ?_)
        refine g_yes (h34.trans (congrArg V.bool hg4)) (gv (ji (x_10.list.length : Int)) (ev_lenO (o := x_10) h37) fun h38 => ?_)
        refine g_yes (h34.trans (congrArg V.bool hg4)) (g2 36 38 (jb (decide ((r_19.list.length : Int) > (x_10.list.length : Int)))) h36 h38 fun h39 => ?_)
        refine g_yes (h34.trans (congrArg V.bool hg4)) (gm h39 fun h40 => ?_)
        refine split_on (c := decide ((r_19.list.length : Int) > (x_10.list.length : Int))) h (fun hg10 h => ?_) (fun hg10 h => ?_)
        · refine g_no (h40.trans (congrArg V.bool hg10)) ?_
          refine g_no (h40.trans (congrArg V.bool hg10)) ?_
          refine g_no (h40.trans (congrArg V.bool hg10)) ?_
          refine g_no (h40.trans (congrArg V.bool hg10)) ?_
          refine g_no (h40.trans (congrArg V.bool hg10)) ?_
          refine g_no (h40.trans (congrArg V.bool hg10)) ?_
          refine g_skip rfl ?_
          refine g_skip rfl ?_
          refine g_skip rfl ?_
          refine g_skip rfl ?_
          refine g_no (h40.trans (congrArg V.bool hg10)) ?_
          refine g_yes (h34.trans (congrArg V.bool hg4)) (g2 40 51 (jb true) (h40.trans (congrArg V.bool hg10)) (rfl : (_ : V) = (.tup [])) fun h52 => ?_)
          refine g_yes (h32.trans (congrArg V.bool hg2)) (g2 34 52 (jb true) (h34.trans (congrArg V.bool hg4)) h52 fun h53 => ?_)
          refine g2 32 53 (jb true) (h32.trans (congrArg V.bool hg2)) h53 fun h54 => ?_
          refine gz [(1, _), (4, _), (5, _), (6, _), (7, _), (9, _), (22, _), (23, _), (54, _)] ⟨h1, h4, h5, h6, (h7.trans (congrArg V.bool hg4)), h9, h22, h23, h54⟩ ?_
          rintro s ⟨h1, h4, h5, h6, h7, h9, h22, h23, h54⟩
          exact t_f40o_j1 H x_2 x_10 r_19 q_6 x_12 (i_BrambleCover_o_l1 F x_2 q_6 k) ih true true _ ⟨h1, h4, h5, h6, h7, h9, h22, h23, h54⟩ h
        refine g_yes (h40.trans (congrArg V.bool hg10)) (gv (oI 9 [] r_19) (ev_mov h9 ok_encO) fun h41 => ?_)
        refine g_yes (h40.trans (congrArg V.bool hg10)) (gv (ji (r_19.list.length : Int)) (ev_lenO (o := r_19) h41) fun h42 => ?_)
        refine g_yes (h40.trans (congrArg V.bool hg10)) (gv (oI 6 [] x_10) (ev_mov h6 ok_encO) fun h43 => ?_)
        refine g_yes (h40.trans (congrArg V.bool hg10)) (gv (ji (x_10.list.length : Int)) (ev_lenO (o := x_10) h43) fun h44 => ?_)
        refine g_yes (h40.trans (congrArg V.bool hg10)) (g2 42 44 (jb ((r_19.list.length : Int) == (x_10.list.length : Int))) h42 h44 fun h45 => ?_)
        refine g_yes (h40.trans (congrArg V.bool hg10)) (gm h45 fun h46 => ?_)
        refine split_on (c := ((r_19.list.length : Int) == (x_10.list.length : Int))) h (fun hg16 h => ?_) (fun hg16 h => ?_)
        · refine g_yes (h46.trans (congrArg V.bool hg16)) (gv (oI 9 [] r_19) (ev_mov h9 ok_encO) fun h47 => ?_)
          refine g_yes (h46.trans (congrArg V.bool hg16)) (gv (oI 6 [] x_10) (ev_mov h6 ok_encO) fun h48 => ?_)
          obtain ⟨r_24, E_r_24, h⟩ := bind_some h
          refine g_yes (h46.trans (congrArg V.bool hg16)) (g_call (m := 0) (al := false) (r := (Enc.enc (r_24 : Int))) [Enc.enc (r_19.list : (List Int)), Enc.enc (x_10.list : (List Int))] (ta_cons (v := (oI 9 [] r_19)) h47 ok_encP (erase_encO (o := r_19)) (ta_cons (v := (oI 6 [] x_10)) h48 ok_encP (erase_encO (o := x_10)) ta_nil)) (H.c94 _ _ _ E_r_24) H.g94 rfl rfl rfl rfl ?_)
          refine g_yes (h46.trans (congrArg V.bool hg16)) (g1 49 (jb (decide (r_24 ≥ 0))) (rfl : (_ : V) = (ji r_24)) fun h50 => ?_)
          refine g_yes (h40.trans (congrArg V.bool hg10)) (g2 46 50 (jb (decide (r_24 ≥ 0))) (h46.trans (congrArg V.bool hg16)) h50 fun h51 => ?_)
          refine g_yes (h34.trans (congrArg V.bool hg4)) (g2 40 51 (jb (decide (r_24 ≥ 0))) (h40.trans (congrArg V.bool hg10)) h51 fun h52 => ?_)
          refine g_yes (h32.trans (congrArg V.bool hg2)) (g2 34 52 (jb (decide (r_24 ≥ 0))) (h34.trans (congrArg V.bool hg4)) h52 fun h53 => ?_)
          refine g2 32 53 (jb (decide (r_24 ≥ 0))) (h32.trans (congrArg V.bool hg2)) h53 fun h54 => ?_
          refine gz [(1, _), (4, _), (5, _), (6, _), (7, _), (9, _), (22, _), (23, _), (54, _)] ⟨h1, h4, h5, h6, (h7.trans (congrArg V.bool hg4)), h9, h22, h23, h54⟩ ?_
          rintro s ⟨h1, h4, h5, h6, h7, h9, h22, h23, h54⟩
          exact t_f40o_j1 H x_2 x_10 r_19 q_6 x_12 (i_BrambleCover_o_l1 F x_2 q_6 k) ih true (decide (r_24 ≥ 0)) _ ⟨h1, h4, h5, h6, h7, h9, h22, h23, h54⟩ h
        refine g_no (h46.trans (congrArg V.bool hg16)) ?_
        refine g_no (h46.trans (congrArg V.bool hg16)) ?_
        refine g_no (h46.trans (congrArg V.bool hg16)) ?_
        refine g_no (h46.trans (congrArg V.bool hg16)) ?_
        refine g_yes (h40.trans (congrArg V.bool hg10)) (g2 46 50 (jb false) (h46.trans (congrArg V.bool hg16)) (rfl : (_ : V) = (.tup [])) fun h51 => ?_)
        refine g_yes (h34.trans (congrArg V.bool hg4)) (g2 40 51 (jb false) (h40.trans (congrArg V.bool hg10)) h51 fun h52 => ?_)
        refine g_yes (h32.trans (congrArg V.bool hg2)) (g2 34 52 (jb false) (h34.trans (congrArg V.bool hg4)) h52 fun h53 => ?_)
        refine g2 32 53 (jb false) (h32.trans (congrArg V.bool hg2)) h53 fun h54 => ?_
        refine gz [(1, _), (4, _), (5, _), (6, _), (7, _), (9, _), (22, _), (23, _), (54, _)] ⟨h1, h4, h5, h6, (h7.trans (congrArg V.bool hg4)), h9, h22, h23, h54⟩ ?_
        rintro s ⟨h1, h4, h5, h6, h7, h9, h22, h23, h54⟩
        exact t_f40o_j1 H x_2 x_10 r_19 q_6 x_12 (i_BrambleCover_o_l1 F x_2 q_6 k) ih true false _ ⟨h1, h4, h5, h6, h7, h9, h22, h23, h54⟩ h
      refine g_no (h34.trans (congrArg V.bool hg4)) ?_
      refine g_no (h34.trans (congrArg V.bool hg4)) ?_
      refine g_no (h34.trans (congrArg V.bool hg4)) ?_
      refine g_no (h34.trans (congrArg V.bool hg4)) ?_
      refine g_no (h34.trans (congrArg V.bool hg4)) ?_
      refine g_no (h34.trans (congrArg V.bool hg4)) ?_
      refine g_skip rfl ?_
      refine g_skip rfl ?_
      refine g_skip rfl ?_
      refine g_skip rfl ?_
      refine g_skip rfl ?_
      refine g_skip rfl ?_
      refine g_skip rfl ?_
      refine g_skip rfl ?_
      refine g_skip rfl ?_
      refine g_skip rfl ?_
      refine g_skip rfl ?_
      refine g_no (h34.trans (congrArg V.bool hg4)) ?_
      refine g_yes (h32.trans (congrArg V.bool hg2)) (g2 34 52 (jb false) (h34.trans (congrArg V.bool hg4)) (rfl : (_ : V) = (.tup [])) fun h53 => ?_)
      refine g2 32 53 (jb false) (h32.trans (congrArg V.bool hg2)) h53 fun h54 => ?_
      refine gz [(1, _), (4, _), (5, _), (6, _), (7, _), (9, _), (22, _), (23, _), (54, _)] ⟨h1, h4, h5, h6, (h7.trans (congrArg V.bool hg4)), h9, h22, h23, h54⟩ ?_
      rintro s ⟨h1, h4, h5, h6, h7, h9, h22, h23, h54⟩
      exact t_f40o_j1 H x_2 x_10 r_19 q_6 x_12 (i_BrambleCover_o_l1 F x_2 q_6 k) ih false false _ ⟨h1, h4, h5, h6, h7, h9, h22, h23, h54⟩ h
    refine .exit (.esq (.elp (.ebk (.nsq (.seq (rg (gv (oI 6 [] x_10) (ev_mov h6 ok_encO) fun h57 => ?_)))))))
    refine gv (oI 6 [] x_10) (ev_mov h57 ok_encO) fun h4 => ?_
    refine g0 (jb true) fun h5 => ?_
    refine g_end ?_
    refine e_home (r := 6) (x := 4) (v := _) h4 ok_encO (fun s_14 hg_14 => ?_)
    refine ez [(4, (oI 4 [] x_10)), (5, (jb true))] ⟨(hg_14 4 _ _ h4 (map_encO (r := 6) (p := []) rfl rfl)), (hg_14 5 _ _ h5 mb)⟩ ?_
    rintro s ⟨h4, h5⟩
    refine .nsq (.ret ?_)
    have hr := Option.some.inj h
    subst hr
    exact rrB (res_tmp h4) (res_tmp h5) (fin_retO (finO_tup (finOs_cons (finO_own (o := (x_10 : NL Int))) (finOs_cons finO_bool finOs_nil))) rfl (mine_tup (mines_cons (mine_own rfl) (mines_cons rfl mines_nil))))
def i_BrambleCover_o_j2 (F : Nat) (x_2 : (List (List Int))) (x_1 : (Int × (List (Int × Int))))  (x_5 : Bool) : Option ((NL Int) × Bool) :=
  bif x_5 then
    some (.nil, false)
  else
    (shlI .i64 1 x_1.1).bind fun q_6 =>
    i_BrambleCover_o_l1 F x_2 q_6 F .nil false 0
theorem t_f40o_j2 (H : H40o D σ F) (x_2 : (List (List Int))) (x_1 : (Int × (List (Int × Int))))  (x_5 : Bool) (s : Nat → V) (hs : Facts [(1, (Enc.enc (x_2 : List (List Int)))), (2, (.ref (.bx 2) 0 [] (.agg [(ji x_1.1), (Enc.enc (x_1.2 : List (Int × Int)))]))), (4, (.sl .nl (Enc.shp Int) 0 [])), (5, (jb false)), (19, (jb x_5))] s) (h : i_BrambleCover_o_j2 F x_2 x_1  x_5 = some r) : Run D σ (R40o r) (.nrm [.sq A40o_11, .sq A40o_12]) s := by
  unfold i_BrambleCover_o_j2 at h
  obtain ⟨h1, h2, h4, h5, h19⟩ := hs
  refine .nsq (run_cond (t := x_5) h19 h (fun h => ?_) (fun h => ?_))
  · refine .seq (rg (g0 (.sl .nl (Enc.shp Int) 0 []) fun h4 => ?_))
    refine g0 (jb false) fun h5 => ?_
    refine gq (.nsq (.ret ?_))
    have hr := Option.some.inj h
    subst hr
    exact rrB (res_tmp h4) (res_tmp h5) (fin_retO (finO_tup (finOs_cons (finO_nil (α := Int)) (finOs_cons finO_bool finOs_nil))) rfl (mine_tup (mines_cons mine_nil (mines_cons rfl mines_nil))))
  refine .skip (.nsq (.seq (rg (g0 (.sl .nl (Enc.shp Int) 0 []) fun h6 => ?_))))
  refine gq (.nsq (.seq (rg (g0 (jb false) fun h7 => ?_))))
  refine gq (.nsq (.seq (.seq (rg (g1 2 (.ref (.bx 2) 0 [0] (ji x_1.1)) h2 fun h20 => ?_)))))
  refine g1 20 (ji x_1.1) h20 fun h21 => ?_
  obtain ⟨q_6, E_q_6, h⟩ := bind_some h
  refine gv (ji q_6) (ev_shl rfl h21 E_q_6) fun h22 => ?_
  refine g0 (ji 0) fun h23 => gq (.nsq (.block (.loop ?_)))
  exact t_f40o_l1 H x_2 q_6 F .nil false 0 _ ⟨h1, h4, h5, h6, h7, h22, h23⟩ h
def i_BrambleCover_o (F : Nat) (x_1 : (Int × (List (Int × Int)))) (x_2 : (List (List Int))) : Option ((NL Int) × Bool) :=
  (i_IsGraph F x_1).bind fun r_25 =>
  bif (!r_25) then
    i_BrambleCover_o_j2 F x_2 x_1 true
  else
    (i_isBramble F x_1 x_2).bind fun r_26 =>
    i_BrambleCover_o_j2 F x_2 x_1 (!r_26)
theorem t40o (H : H40o D σ F) (x_1 : (Int × (List (Int × Int)))) (x_2 : (List (List Int))) (s : Nat → V) (hs : Facts [(0, (.agg [(ji x_1.1), (Enc.enc (x_1.2 : List (Int × Int)))])), (1, (Enc.enc (x_2 : List (List Int))))] s) (h : i_BrambleCover_o F x_1 x_2 = some r) : Run D σ (R40o r) (.run A40o []) s := by
  unfold i_BrambleCover_o at h
  obtain ⟨h0, h1⟩ := hs
  refine .seq (run_reg ?_)
  refine e_clr ?_
  refine ez [(0, _), (1, _), (2, _)] ⟨(keep_clear (pk := [2]) h0 rfl (map_agg (maps_cons mi (maps_cons me maps_nil)))), (keep_clear (pk := [2]) h1 rfl me), (gone_clear (pk := [2]) (t := 2) rfl)⟩ ?_
  rintro s ⟨h0, h1, h2⟩
  refine g_box (.agg [(ji x_1.1), (Enc.enc (x_1.2 : List (Int × Int)))]) (rd_of h0 rfl) h2 rfl ?_
  refine g0 (.sl .nl (Enc.shp Int) 0 []) fun h4 => ?_
  refine g0 (jb false) fun h5 => ?_
  refine gq (.nsq (.seq (.seq (rg (g1 2 (.agg [(ji x_1.1), (Enc.enc (x_1.2 : List (Int × Int)))]) (rfl : (_ : V) = (.ref (.bx 2) 0 [] (.agg [(ji x_1.1), (Enc.enc (x_1.2 : List (Int × Int)))]))) fun h11 => ?_)))))
  obtain ⟨r_25, E_r_25, h⟩ := bind_some h
  refine g_call (m := 0) (al := false) (r := (Enc.enc (r_25 : Bool))) [Enc.enc (x_1 : (Int × (List (Int × Int))))] (ta_cons (v := (.agg [(ji x_1.1), (Enc.enc (x_1.2 : List (Int × Int)))])) h11 rfl (Enc.erase_enc (x_1 : (Int × (List (Int × Int))))) ta_nil) (H.c63 _ _ E_r_25) H.g63 rfl rfl rfl rfl ?_
  refine g1 12 (jb (!r_25)) (rfl : (_ : V) = (jb r_25)) fun h13 => ?_
  refine gm h13 fun h14 => split_on (c := (!r_25)) h (fun hg4 h => ?_) (fun hg4 h => ?_)
  · refine g_no (h14.trans (congrArg V.bool hg4)) ?_
    refine g_no (h14.trans (congrArg V.bool hg4)) ?_
    refine g_no (h14.trans (congrArg V.bool hg4)) ?_
    refine g_no (h14.trans (congrArg V.bool hg4)) ?_
    refine g2 14 18 (jb true) (h14.trans (congrArg V.bool hg4)) (rfl : (_ : V) = (.tup [])) fun h19 => ?_
    refine gq ?_
    exact t_f40o_j2 H x_2 x_1 true _ ⟨h1, rfl, h4, h5, h19⟩ h
  refine g_yes (h14.trans (congrArg V.bool hg4)) (g1 2 (.agg [(ji x_1.1), (Enc.enc (x_1.2 : List (Int × Int)))]) (rfl : (_ : V) = (.ref (.bx 2) 0 [] (.agg [(ji x_1.1), (Enc.enc (x_1.2 : List (Int × Int)))]))) fun h15 => ?_)
  refine g_yes (h14.trans (congrArg V.bool hg4)) (gm h1 fun h16 => ?_)
  obtain ⟨r_26, E_r_26, h⟩ := bind_some h
  refine g_yes (h14.trans (congrArg V.bool hg4)) (g_call (m := 0) (al := false) (r := (Enc.enc (r_26 : Bool))) [Enc.enc (x_1 : (Int × (List (Int × Int)))), Enc.enc (x_2 : (List (List Int)))] (ta_cons (v := (.agg [(ji x_1.1), (Enc.enc (x_1.2 : List (Int × Int)))])) h15 rfl (Enc.erase_enc (x_1 : (Int × (List (Int × Int))))) (ta_cons (v := (Enc.enc (x_2 : List (List Int)))) h16 rfl (Enc.erase_enc (x_2 : (List (List Int)))) ta_nil)) (H.c90 _ _ _ E_r_26) H.g90 rfl rfl rfl rfl ?_)
  refine g_yes (h14.trans (congrArg V.bool hg4)) (g1 17 (jb (!r_26)) (rfl : (_ : V) = (jb r_26)) fun h18 => ?_)
  refine g2 14 18 (jb (!r_26)) (h14.trans (congrArg V.bool hg4)) h18 fun h19 => ?_
  refine gq ?_
  exact t_f40o_j2 H x_2 x_1 (!r_26) _ ⟨h1, rfl, h4, h5, h19⟩ h
end
def e40o (F : Nat) : Ent := ent 1000000040 (fun (x : ((Int × (List (Int × Int))) × (List (List Int)) × Unit)) => i_BrambleCover_o F x.1 x.2.1) (fun (r : ((NL Int) × Bool)) => (.tup [(encO .sh (r.1 : NL Int)), (Enc.enc (r.2 : Bool))])) 1 false []
theorem p40o {F : Nat} {x0 : (Int × (List (Int × Int)))} {x1 : (List (List Int))} {r : ((NL Int) × Bool)} (h : i_BrambleCover_o F x0 x1 = some r) : (e40o F).den [Enc.enc x0, Enc.enc x1] = some (.tup [(encO .sh (r.1 : NL Int)), (Enc.enc (r.2 : Bool))]) := ent_put (x0, x1, ()) h
theorem o40o {D : Den} {σ : Sig} {F : Nat} (hF : Fits2 Try.prog D σ) (H : H40o D σ F) : (e40o F).Ok Try.prog := by
  refine ok_of (f := 40) (show unk 1000000040 = 40 from rfl) (fun args r h => ?_) ⟨Try.f40, Try.func40, rfl, rfl⟩
  obtain ⟨⟨x0, x1, _⟩, y, rfl, hy, rfl⟩ := da_open h
  exact contract_run hF (by kernel_rfl) Try.func40 rfl c40o (show 2 ≤ Try.f40.ntmps by decide) (t40o H x0 x1 _ ⟨rfl, rfl⟩ hy)
/- loop.example/g01109/laws.eqIntS -/
def A21_2 : AC := (.cond (.t 14) .skip (.exit 0))
def A21_4 : AC := (.cond (.t 25) (.seq (.reg [] [((jv 4 (.mov (.k (.bool false)))))] []) .ret) .skip)
def A21_5 : AC := (.reg [] [(jm 15 5), ((jv 16 (.bin .add (.t 15) (jn 1)))), (jm 5 16)] [])
def A21_3 : AC := (.seq (.block 1 (.seq (.reg [] [(jm 17 0), (jm 18 5), ((jv 19 (.idx (.t 17) (.t 18) 1))), ((jv 20 (.load .s (.t 19)))), (jm 21 1), (jm 22 5), ((jv 23 (.idx (.t 21) (.t 22) 1))), ((jv 24 (.load .s (.t 23)))), ((jv 25 (.bin .neq (.t 20) (.t 24))))] []) A21_4)) A21_5)
def A21_1 : AC := (.seq (.seq (.reg [] [(jm 11 5), (jm 12 0), ((jv 13 (.len (.t 12)))), ((jv 14 (.bin .lss (.t 11) (.t 13))))] []) A21_2) A21_3)
def A21_6 : AC := (.seq (.reg [] [((jv 4 (.mov (.k (.bool true)))))] []) .ret)
def A21_8 : AC := (.cond (.t 10) (.seq (.reg [] [((jv 4 (.mov (.k (.bool false)))))] []) .ret) .skip)
def A21_10 : AC := (.block 0 (.loop A21_1))
def A21_9 : AC := (.seq (.seq (.reg [] [((jv 5 (.mov (jn 0))))] []) A21_10) A21_6)
def A21_7 : AC := (.seq (.seq (.reg [] [(jm 6 0), ((jv 7 (.len (.t 6)))), (jm 8 1), ((jv 9 (.len (.t 8)))), ((jv 10 (.bin .neq (.t 7) (.t 9))))] []) A21_8) A21_9)
def A21 : AC := (.seq (.reg [] [((jv 4 (.mov (.k (.bool false)))))] []) A21_7)
def an21 : List An := []
theorem c21 : cC Try.prog Try.f21.ntmps an21 (Try.f21.body.getD .skip) = some A21 := by kernel_rfl
structure H21 (D : Den) (σ : Sig) (F : Nat) : Prop where
  mk ::
abbrev R21 (r : Bool) : (Nat → V) → Prop := RR Try.prog [.tmp 4] 0 false (Enc.enc (r : Bool))
section
variable {D : Den} {σ : Sig} {F : Nat} {r : Bool}
def w_eqIntS_l1 (F : Nat) (x_1 : (List Int)) (x_2 : (List Int))  : Nat → Int → Option Bool
  | 0, _ => none
  | k + 1, x_5 =>
    bif decide (x_5 < (x_1.length : Int)) then
      (idx x_1 x_5).bind fun e_8 =>
      (idx x_2 x_5).bind fun e_9 =>
      bif (e_8 != e_9) then
        some false
      else
        (w_eqIntS_l1 F x_1 x_2 k) (w64 (x_5 + 1))
    else
      some true
theorem t_f21_l1 (H : H21 D σ F) (x_1 : (List Int)) (x_2 : (List Int))  : ∀ (k : Nat) (x_5 : Int) (s : Nat → V), Facts [(0, (eL x_1)), (1, (eL x_2)), (4, (jb false)), (5, (ji x_5))] s → w_eqIntS_l1 F x_1 x_2 k x_5 = some r → Run D σ (R21 r) (.run A21_1 [.lp A21_1, .bk 0, .sq A21_6]) s := by
  intro k
  induction k with
  | zero => intro x_5 s _ h; exact nomatch (h : (none : Option _) = some r)
  | succ k ih =>
    intro x_5 s hs h
    rw [w_eqIntS_l1] at h
    obtain ⟨h0, h1, h4, h5⟩ := hs
    refine .seq (.seq (rg (gm h5 fun h11 => gm h0 fun h12 => gv (ji (x_1.length : Int)) (ev_len (xs := x_1) h12) fun h13 => ?_)))
    refine g2 11 13 (jb (decide (x_5 < (x_1.length : Int)))) h11 h13 fun h14 => ?_
    refine gq (.nsq (run_cond (t := decide (x_5 < (x_1.length : Int))) h14 h (fun h => ?_) (fun h => ?_)))
    · refine .skip (.nsq (.seq (.block (.seq (rg (gm h0 fun h17 => gm h5 fun h18 => ?_))))))
      obtain ⟨e_8, E_e_8, h⟩ := bind_some h
      refine gv (.ref .sh 0 [] (ji e_8)) (ev_idx (t := .sh) (lo := 0) (xs := x_1) h17 h18 E_e_8 rfl rfl) fun h19 => ?_
      refine g1 19 (ji e_8) h19 fun h20 => ?_
      refine gm h1 fun h21 => gm h5 fun h22 => ?_
      obtain ⟨e_9, E_e_9, h⟩ := bind_some h
      refine gv (.ref .sh 0 [] (ji e_9)) (ev_idx (t := .sh) (lo := 0) (xs := x_2) h21 h22 E_e_9 rfl rfl) fun h23 => ?_
      refine g1 23 (ji e_9) h23 fun h24 => ?_
      refine g2 20 24 (jb (e_8 != e_9)) h20 h24 fun h25 => ?_
      refine gq (.nsq (run_cond (t := (e_8 != e_9)) h25 h (fun h => ?_) (fun h => ?_)))
      · refine .seq (rg (g0 (jb false) fun h4 => ?_))
        refine gq (.nsq (.ret ?_))
        have hr := Option.some.inj h
        subst hr
        exact rrA (res_tmp h4) rfl
      refine .skip (.nbk (.nsq (rg (gm h5 fun h15 => g1 15 (ji (w64 (x_5 + 1))) h15 fun h16 => ?_))))
      refine gm h16 fun h5 => gq (.nlp ?_)
      exact ih (w64 (x_5 + 1)) _ ⟨h0, h1, h4, h5⟩ h
    refine .exit (.esq (.elp (.ebk (.nsq (.seq (rg (g0 (jb true) fun h4 => ?_)))))))
    refine gq (.nsq (.ret ?_))
    have hr := Option.some.inj h
    subst hr
    exact rrA (res_tmp h4) rfl
def w_eqIntS (F : Nat) (x_1 : (List Int)) (x_2 : (List Int)) : Option Bool :=
  bif ((x_1.length : Int) != (x_2.length : Int)) then
    some false
  else
    w_eqIntS_l1 F x_1 x_2 F 0
theorem t21 (H : H21 D σ F) (x_1 : (List Int)) (x_2 : (List Int)) (s : Nat → V) (hs : Facts [(0, (eL x_1)), (1, (eL x_2))] s) (h : w_eqIntS F x_1 x_2 = some r) : Run D σ (R21 r) (.run A21 []) s := by
  unfold w_eqIntS at h
  obtain ⟨h0, h1⟩ := hs
  refine .seq (rg (g0 (jb false) fun h4 => ?_))
  refine gq (.nsq (.seq (.seq (rg (gm h0 fun h6 => gv (ji (x_1.length : Int)) (ev_len (xs := x_1) h6) fun h7 => ?_)))))
  refine gm h1 fun h8 => gv (ji (x_2.length : Int)) (ev_len (xs := x_2) h8) fun h9 => ?_
  refine g2 7 9 (jb ((x_1.length : Int) != (x_2.length : Int))) h7 h9 fun h10 => ?_
  refine gq (.nsq (run_cond (t := ((x_1.length : Int) != (x_2.length : Int))) h10 h (fun h => ?_) (fun h => ?_)))
  · refine .seq (rg (g0 (jb false) fun h4 => ?_))
    refine gq (.nsq (.ret ?_))
    have hr := Option.some.inj h
    subst hr
    exact rrA (res_tmp h4) rfl
  refine .skip (.nsq (.seq (.seq (rg (g0 (ji 0) fun h5 => gq (.nsq (.block (.loop ?_))))))))
  exact t_f21_l1 H x_1 x_2 F 0 _ ⟨h0, h1, h4, h5⟩ h
end
def e21 (F : Nat) : Ent := ent 21 (fun (x : ((List Int) × (List Int) × Unit)) => w_eqIntS F x.1 x.2.1) (fun (r : Bool) => (Enc.enc (r : Bool))) 0 false []
theorem p21 {F : Nat} {x0 : (List Int)} {x1 : (List Int)} {r : Bool} (h : w_eqIntS F x0 x1 = some r) : (e21 F).den [Enc.enc x0, Enc.enc x1] = some (Enc.enc (r : Bool)) := ent_put (x0, x1, ()) h
theorem o21 {D : Den} {σ : Sig} {F : Nat} (hF : Fits2 Try.prog D σ) (H : H21 D σ F) : (e21 F).Ok Try.prog := by
  refine ok_of (f := 21) (show unk 21 = 21 from rfl) (fun args r h => ?_) ⟨Try.f21, Try.func21, rfl, rfl⟩
  obtain ⟨⟨x0, x1, _⟩, y, rfl, hy, rfl⟩ := da_open h
  exact contract_run hF (by kernel_rfl) Try.func21 rfl c21 (show 2 ≤ Try.f21.ntmps by decide) (t21 H x0 x1 _ ⟨rfl, rfl⟩ hy)
/- loop.example/g01109/laws.eqIntA2 -/
def A129_2 : AC := (.cond (.t 7) .skip (.exit 0))
def A129_4 : AC := (.cond (.t 16) (.seq (.reg [] [((jv 4 (.mov (.k (.bool false)))))] []) .ret) .skip)
def A129_5 : AC := (.reg [] [(jm 8 5), ((jv 9 (.bin .add (.t 8) (jn 1)))), (jm 5 9)] [])
def A129_3 : AC := (.seq (.block 1 (.seq (.reg [] [(jm 10 5), ((jv 11 (.idxA (.t 2) (.t 10) 2 1))), ((jv 12 (.load .s (.t 11)))), (jm 13 5), ((jv 14 (.idxA (.t 3) (.t 13) 2 1))), ((jv 15 (.load .s (.t 14)))), ((jv 16 (.bin .neq (.t 12) (.t 15))))] []) A129_4)) A129_5)
def A129_1 : AC := (.seq (.seq (.reg [] [(jm 6 5), ((jv 7 (.bin .lss (.t 6) (jn 2))))] []) A129_2) A129_3)
def A129_6 : AC := (.seq (.reg [] [((jv 4 (.mov (.k (.bool true)))))] []) .ret)
def A129_8 : AC := (.block 0 (.loop A129_1))
def A129_7 : AC := (.seq (.seq (.reg [] [((jv 5 (.mov (jn 0))))] []) A129_8) A129_6)
def A129 : AC := (.seq (.reg [.clr [2, 3]] [(.mk (some 2) none false (.box (.t 0))), (.mk (some 3) none false (.box (.t 1))), ((jv 4 (.mov (.k (.bool false)))))] []) A129_7)
def an129 : List An := [{ id := 0, pre := [.clr [2, 3]], ep := [], lin := [], sp := [] }]
theorem c129 : cC Try.prog Try.f129.ntmps an129 (Try.f129.body.getD .skip) = some A129 := by kernel_rfl
structure H129 (D : Den) (σ : Sig) (F : Nat) : Prop where
  mk ::
abbrev R129 (r : Bool) : (Nat → V) → Prop := RR Try.prog [.tmp 4] 0 false (Enc.enc (r : Bool))
section
variable {D : Den} {σ : Sig} {F : Nat} {r : Bool}
def w_eqIntA2_l1 (F : Nat) (x_1 : (Int × Int)) (x_2 : (Int × Int))  : Nat → Int → Option Bool
  | 0, _ => none
  | k + 1, x_3 =>
    bif decide (x_3 < 2) then
      (idx [x_1.1, x_1.2] x_3).bind fun e_6 =>
      (idx [x_2.1, x_2.2] x_3).bind fun e_7 =>
      bif (e_6 != e_7) then
        some false
      else
        (w_eqIntA2_l1 F x_1 x_2 k) (w64 (x_3 + 1))
    else
      some true
theorem t_f129_l1 (H : H129 D σ F) (x_1 : (Int × Int)) (x_2 : (Int × Int))  : ∀ (k : Nat) (x_3 : Int) (s : Nat → V), Facts [(2, (.ref (.bx 2) 0 [] (.agg [(ji x_1.1), (ji x_1.2)]))), (3, (.ref (.bx 3) 0 [] (.agg [(ji x_2.1), (ji x_2.2)]))), (4, (jb false)), (5, (ji x_3))] s → w_eqIntA2_l1 F x_1 x_2 k x_3 = some r → Run D σ (R129 r) (.run A129_1 [.lp A129_1, .bk 0, .sq A129_6]) s := by
  intro k
  induction k with
  | zero => intro x_3 s _ h; exact nomatch (h : (none : Option _) = some r)
  | succ k ih =>
    intro x_3 s hs h
    rw [w_eqIntA2_l1] at h
    obtain ⟨h2, h3, h4, h5⟩ := hs
    refine .seq (.seq (rg (gm h5 fun h6 => g1 6 (jb (decide (x_3 < 2))) h6 fun h7 => ?_)))
    refine gq (.nsq (run_cond (t := decide (x_3 < 2)) h7 h (fun h => ?_) (fun h => ?_)))
    · refine .skip (.nsq (.seq (.block (.seq (rg (gm h5 fun h10 => ?_))))))
      obtain ⟨e_6, E_e_6, h⟩ := bind_some h
      refine gv (.ref (.bx 2) 0 [x_3.toNat] (ji e_6)) (ev_idxA (xs := [x_1.1, x_1.2]) (a := e_6) (n := x_3) (q := []) h2 h10 E_e_6 rfl rfl rfl) fun h11 => ?_
      refine g1 11 (ji e_6) h11 fun h12 => ?_
      refine gm h5 fun h13 => ?_
      obtain ⟨e_7, E_e_7, h⟩ := bind_some h
      refine gv (.ref (.bx 3) 0 [x_3.toNat] (ji e_7)) (ev_idxA (xs := [x_2.1, x_2.2]) (a := e_7) (n := x_3) (q := []) h3 h13 E_e_7 rfl rfl rfl) fun h14 => ?_
      refine g1 14 (ji e_7) h14 fun h15 => ?_
      refine g2 12 15 (jb (e_6 != e_7)) h12 h15 fun h16 => ?_
      refine gq (.nsq (run_cond (t := (e_6 != e_7)) h16 h (fun h => ?_) (fun h => ?_)))
      · refine .seq (rg (g0 (jb false) fun h4 => ?_))
        refine gq (.nsq (.ret ?_))
        have hr := Option.some.inj h
        subst hr
        exact rrA (res_tmp h4) rfl
      refine .skip (.nbk (.nsq (rg (gm h5 fun h8 => g1 8 (ji (w64 (x_3 + 1))) h8 fun h9 => ?_))))
      refine gm h9 fun h5 => gq (.nlp ?_)
      exact ih (w64 (x_3 + 1)) _ ⟨h2, h3, h4, h5⟩ h
    refine .exit (.esq (.elp (.ebk (.nsq (.seq (rg (g0 (jb true) fun h4 => ?_)))))))
    refine gq (.nsq (.ret ?_))
    have hr := Option.some.inj h
    subst hr
    exact rrA (res_tmp h4) rfl
def w_eqIntA2 (F : Nat) (x_1 : (Int × Int)) (x_2 : (Int × Int)) : Option Bool :=
  w_eqIntA2_l1 F x_1 x_2 F 0
theorem t129 (H : H129 D σ F) (x_1 : (Int × Int)) (x_2 : (Int × Int)) (s : Nat → V) (hs : Facts [(0, (.agg [(ji x_1.1), (ji x_1.2)])), (1, (.agg [(ji x_2.1), (ji x_2.2)]))] s) (h : w_eqIntA2 F x_1 x_2 = some r) : Run D σ (R129 r) (.run A129 []) s := by
  unfold w_eqIntA2 at h
  obtain ⟨h0, h1⟩ := hs
  refine .seq (run_reg ?_)
  refine e_clr ?_
  refine ez [(0, _), (1, _), (2, _), (3, _)] ⟨(keep_clear (pk := [2, 3]) h0 rfl (map_agg (maps_cons mi (maps_cons mi maps_nil)))), (keep_clear (pk := [2, 3]) h1 rfl (map_agg (maps_cons mi (maps_cons mi maps_nil)))), (gone_clear (pk := [2, 3]) (t := 2) rfl), (gone_clear (pk := [2, 3]) (t := 3) rfl)⟩ ?_
  rintro s ⟨h0, h1, h2, h3⟩
  refine g_box (.agg [(ji x_1.1), (ji x_1.2)]) (rd_of h0 rfl) h2 rfl ?_
  refine g_box (.agg [(ji x_2.1), (ji x_2.2)]) (rd_of h1 rfl) h3 rfl ?_
  refine g0 (jb false) fun h4 => ?_
  refine gq (.nsq (.seq (.seq (rg (g0 (ji 0) fun h5 => gq (.nsq (.block (.loop ?_))))))))
  exact t_f129_l1 H x_1 x_2 F 0 _ ⟨rfl, rfl, h4, h5⟩ h
end
def e129 (F : Nat) : Ent := ent 129 (fun (x : ((Int × Int) × (Int × Int) × Unit)) => w_eqIntA2 F x.1 x.2.1) (fun (r : Bool) => (Enc.enc (r : Bool))) 0 false []
theorem p129 {F : Nat} {x0 : (Int × Int)} {x1 : (Int × Int)} {r : Bool} (h : w_eqIntA2 F x0 x1 = some r) : (e129 F).den [Enc.enc x0, Enc.enc x1] = some (Enc.enc (r : Bool)) := ent_put (x0, x1, ()) h
theorem o129 {D : Den} {σ : Sig} {F : Nat} (hF : Fits2 Try.prog D σ) (H : H129 D σ F) : (e129 F).Ok Try.prog := by
  refine ok_of (f := 129) (show unk 129 = 129 from rfl) (fun args r h => ?_) ⟨Try.f129, Try.func129, rfl, rfl⟩
  obtain ⟨⟨x0, x1, _⟩, y, rfl, hy, rfl⟩ := da_open h
  exact contract_run hF (by kernel_rfl) Try.func129 rfl c129 (show 2 ≤ Try.f129.ntmps by decide) (t129 H x0 x1 _ ⟨rfl, rfl⟩ hy)
end Go.Zq
