/- Functions of the program as typed functions, and that the machine runs as they say (part 3). No further condition. -/
import Derived.Test.YtkmhlpopclahcaaK4
import Derived.Test.YtkmhlpopclahcaaProg
import Derived.Test.YtkmhlpopclahcaaChecked
import Derived.KernelRfl
import Derived.Test.YtkmhlpopclahcaaG2
set_option linter.unusedVariables false
set_option linter.unusedSimpArgs false
namespace Go.Zq
open Go.Proofs
def zlf : AC := (.cond (.t 12) .skip (.exit 0))
def zmr : AC := (.cond (.t 18) .skip (.exit 2))
def ziB : AC := (.cond (.t 33) (.reg [.frz 5] [jm 34 5, jm 35 1, jm 36 6, jv 37 (.idx (.t 35) (.t 36) 1), jv 38 (.load .s (.t 37)), jx 39 (.call (jf 54) [.t 34, .t 38]), jm 5 39] []) .skip)
def zey : AC := (.reg [] [jm 19 7, jv 20 (.bin .add (.t 19) (jn 1)), jm 7 20] [])
def zps : AC := (.seq (.block 3 (.seq (.reg [] [jv 21 (.load (.ag [.s, .p]) (.t 2)), jm 22 1, jm 23 6, jv 24 (.idx (.t 22) (.t 23) 1), jv 25 (.load .s (.t 24)), jm 26 7, jx 27 (.call (jf 52) [.t 21, .t 25, .t 26]), jm 28 27, jg 29 28 true (.mov (.t 1)), jg 30 28 true (.mov (.t 7)), .mk (some 31) (some (28, true)) false (.call (jf 53) [.t 29, .t 30]), jg 32 28 true (.un .not (.t 31)), jv 33 (.pick (.t 28) (.t 32) kf)] []) ziB)) zey)
def UM : AC := (.seq (.seq (.reg [] [jm 15 7, jv 16 (.fld (.t 2) 0 0), jv 17 (.load .s (.t 16)), jv 18 (.bin .lss (.t 15) (.t 17))] []) zmr) zps)
def zmd : AC := (.block 2 (.loop UM))
def Ja : AC := (.reg [] [jm 13 6, jv 14 (.bin .add (.t 13) (jn 1)), jm 6 14] [])
def zkP : AC := (.seq (.block 1 (.seq (.reg [] [jv 7 (.mov (jn 0))] []) zmd)) Ja)
def YO : AC := (.seq (.seq (.reg [] [jm 9 6, jm 10 1, jv 11 (.len (.t 10)), jv 12 (.bin .lss (.t 9) (.t 11))] []) zlf) zkP)
def YY : AC := (.seq (.reg [] [jm 40 5, jm 4 40] []) .ret)
def zkK : AC := (.block 0 (.loop YO))
def zjn : AC := (.seq (.seq (.reg [] [jv 6 (.mov (jn 0))] []) zkK) YY)
def zj3 : AC := (.seq (.reg [.clr [8]] [jx 8 (.lit i0 0 []), jm 5 8] [.home 8 5, .frz 5]) zjn)
def A27 : AC := (.seq (.reg [.clr [2]] [jx 2 (.box (.t 0)), jv 4 (.mov (.k (.sl .nl .s 0 [])))] []) zj3)
def zqO : List An := [⟨0, [.clr [2]], [], [], []⟩, ⟨1, [.clr [8]], [], [], [.home 8 5, .frz 5]⟩, ⟨9, [.frz 5], [], [], []⟩]
theorem c27 : cC Try.prog Try.f27.ntmps zqO (Try.f27.body.getD .skip) = some A27 := by kernel_rfl
structure H27 (D : Den) (σ : Sig) (F : Nat) : Prop where
 c52 : C52 (D 52) F
 g52 : σ 52 = some (0, false)
 c53 : C53 (D 53) F
 g53 : σ 53 = some (0, false)
 c54 : C54 (D 54) F
 g54 : σ 54 = some (0, true)
abbrev R27 (r : LI) : (Nat → V) → Prop := RR Try.prog [.tmp 4] 0 true (eL r)
section
variable {D : Den} {σ : Sig} {F : Nat} {r : LI}
def vP (F : Nat) (x_2 : LI) (x_1 : GR) (x_42 : Int) (x_94 : Int) (c1 : LI → Int → Option LI) (c4 : LI → Int → Option LI) (x_113 : LI) : Option LI :=
 c4 x_113 (w64 (x_94 + 1))
theorem zab (H : H27 D σ F) (x_2 : LI) (x_1 : GR) (x_42 : Int) (x_94 : Int) (c1 : LI → Int → Option LI) (Hc1 : ∀ (x_41 : LI) (x_42 : Int) (s : Nat → V), zl [(1, eL x_2), (2, bG 2 x_1), (4, nI), (5, eL x_41), (6, ji x_42)] s → c1 x_41 x_42 = some r → Run D σ (R27 r) (.run YO [.lp YO, .bk 0, .sq YY]) s) (c4 : LI → Int → Option LI) (Hc4 : ∀ (x_93 : LI) (x_94 : Int) (s : Nat → V), zl [(1, eL x_2), (2, bG 2 x_1), (4, nI), (5, eL x_93), (6, ji x_42), (7, ji x_94)] s → c4 x_93 x_94 = some r → Run D σ (R27 r) (.run UM [.lp UM, .bk 2, .bk 1, .sq Ja, .lp YO, .bk 0, .sq YY]) s) (x_113 : LI) (s : Nat → V) (hs : zl [(1, eL x_2), (2, bG 2 x_1), (4, nI), (5, eL x_113), (6, ji x_42), (7, ji x_94)] s) (h : vP F x_2 x_1 x_42 x_94 c1 c4 x_113 = some r) : Run D σ (R27 r) (.nrm [.bk 3, .sq zey, .lp UM, .bk 2, .bk 1, .sq Ja, .lp YO, .bk 0, .sq YY]) s := by
 unfold vP at h
 obtain ⟨h1, h2, h4, h5, h6, h7⟩ := hs
 refine .nbk (.nsq (rg (gm h7 fun h19 => g1 19 (ji (w64 (x_94 + 1))) h19 fun h20 => gm h20 fun h7 => gq (.nlp ?_))))
 exact Hc4 x_113 (w64 (x_94 + 1)) _ ⟨h1, h2, h4, h5, h6, h7⟩ h
def vR (F : Nat) (x_2 : LI) (x_1 : GR) (x_93 : LI) (x_42 : Int) (x_94 : Int) (c1 : LI → Int → Option LI) (c4 : LI → Int → Option LI) (x_110 : Bool) : Option LI :=
 bif x_110 then
  (idx x_2 x_42).bind fun e_114 =>
  (YV F x_93 e_114).bind fun r_115 =>
  vP F x_2 x_1 x_42 x_94 c1 c4 r_115
 else
  vP F x_2 x_1 x_42 x_94 c1 c4 x_93
theorem Qx (H : H27 D σ F) (x_2 : LI) (x_1 : GR) (x_93 : LI) (x_42 : Int) (x_94 : Int) (c1 : LI → Int → Option LI) (Hc1 : ∀ (x_41 : LI) (x_42 : Int) (s : Nat → V), zl [(1, eL x_2), (2, bG 2 x_1), (4, nI), (5, eL x_41), (6, ji x_42)] s → c1 x_41 x_42 = some r → Run D σ (R27 r) (.run YO [.lp YO, .bk 0, .sq YY]) s) (c4 : LI → Int → Option LI) (Hc4 : ∀ (x_93 : LI) (x_94 : Int) (s : Nat → V), zl [(1, eL x_2), (2, bG 2 x_1), (4, nI), (5, eL x_93), (6, ji x_42), (7, ji x_94)] s → c4 x_93 x_94 = some r → Run D σ (R27 r) (.run UM [.lp UM, .bk 2, .bk 1, .sq Ja, .lp YO, .bk 0, .sq YY]) s) (x_110 : Bool) (s : Nat → V) (hs : zl [(1, eL x_2), (2, bG 2 x_1), (4, nI), (5, eL x_93), (6, ji x_42), (7, ji x_94), (33, jb x_110)] s) (h : vR F x_2 x_1 x_93 x_42 x_94 c1 c4 x_110 = some r) : Run D σ (R27 r) (.nrm [.sq ziB, .bk 3, .sq zey, .lp UM, .bk 2, .bk 1, .sq Ja, .lp YO, .bk 0, .sq YY]) s := by
 unfold vR at h
 obtain ⟨h1, h2, h4, h5, h6, h7, h33⟩ := hs
 refine .nsq (zi (t := x_110) h33 h (fun h => ?_) (fun h => ?_))
 · refine zt (X1 (x := 5) (v := eL x_93) [] (by exact h5) (Enc.toks_enc (x_93 : LI)) (fun s_22 hg_22 => ?_))
   refine ez [(1, _), (2, _), (4, _), (5, _), (6, _), (7, _)] ⟨hg_22 1 _ _ h1 (Zb _), hg_22 2 _ _ h2 (Zb _), hg_22 4 _ _ h4 (Zb _), hg_22 5 _ _ h5 (Zb _), hg_22 6 _ _ h6 (Zb _), hg_22 7 _ _ h7 (Zb _)⟩ ?_
   rintro s ⟨h1, h2, h4, h5, h6, h7⟩
   refine gm h5 fun h34 => gm h1 fun h35 => gm h6 fun h36 => ?_
   obtain ⟨e_114, E_e_114, h⟩ := bind_some h
   refine gv (.ref .sh 0 [] (ji e_114)) (yu (t := .sh) (lo := 0) (xs := x_2) h35 h36 E_e_114 rfl rfl) fun h37 => g1 37 (ji e_114) h37 fun h38 => ?_
   obtain ⟨r_115, E_r_115, h⟩ := bind_some h
   refine zB (m := 0) (al := true) (r := eL r_115) [eL x_93, Enc.enc (e_114 : Int)] (zd (v := eL x_93) h34 rfl (Enc.erase_enc (x_93 : LI)) (zd (v := ji e_114) h38 rfl rfl zw)) (H.c54 _ _ _ E_r_115) H.g54 (Zd (xk (v := eL x_93) h34 rfl rfl (xk (v := ji e_114) h38 rfl rfl uV))) rfl rfl rfl (gm (rf (eL r_115)) fun h5 => gq ?_)
   exact zab H x_2 x_1 x_42 x_94 c1 Hc1 c4 Hc4 r_115 _ ⟨h1, h2, h4, h5, h6, h7⟩ h
 refine .skip ?_
 exact zab H x_2 x_1 x_42 x_94 c1 Hc1 c4 Hc4 x_93 _ ⟨h1, h2, h4, h5, h6, h7⟩ h
def yY (F : Nat) (x_2 : LI) (x_1 : GR) (x_42 : Int) (c1 : LI → Int → Option LI) : Nat → LI → Int → Option LI
 | 0, _, _ => none
 | k + 1, x_93, x_94 =>
   bif decide (x_94 < x_1.1) then
    (idx x_2 x_42).bind fun e_116 =>
    (u7 F x_1 e_116 x_94).bind fun r_117 =>
    bif r_117 then
     (uS F x_2 x_94).bind fun r_118 =>
     vR F x_2 x_1 x_93 x_42 x_94 c1 (yY F x_2 x_1 x_42 c1 k) (!r_118)
    else
     vR F x_2 x_1 x_93 x_42 x_94 c1 (yY F x_2 x_1 x_42 c1 k) false
   else
    c1 x_93 (w64 (x_42 + 1))
theorem zfh (H : H27 D σ F) (x_2 : LI) (x_1 : GR) (x_42 : Int) (c1 : LI → Int → Option LI) (Hc1 : ∀ (x_41 : LI) (x_42 : Int) (s : Nat → V), zl [(1, eL x_2), (2, bG 2 x_1), (4, nI), (5, eL x_41), (6, ji x_42)] s → c1 x_41 x_42 = some r → Run D σ (R27 r) (.run YO [.lp YO, .bk 0, .sq YY]) s) : ∀ (k : Nat) (x_93 : LI) (x_94 : Int) (s : Nat → V), zl [(1, eL x_2), (2, bG 2 x_1), (4, nI), (5, eL x_93), (6, ji x_42), (7, ji x_94)] s → yY F x_2 x_1 x_42 c1 k x_93 x_94 = some r → Run D σ (R27 r) (.run UM [.lp UM, .bk 2, .bk 1, .sq Ja, .lp YO, .bk 0, .sq YY]) s := by
 intro k
 induction k with
 | zero => intro x_93 x_94 s _ h; exact nm h
 | succ k ih =>
   intro x_93 x_94 s hs h
   rw [yY] at h
   obtain ⟨h1, h2, h4, h5, h6, h7⟩ := hs
   refine .seq (.seq (rg (gm h7 fun h15 => g1 2 (.ref (.bx 2) 0 [0] (ji x_1.1)) h2 fun h16 => g1 16 (ji x_1.1) h16 fun h17 => g2 15 17 (jb (decide (x_94 < x_1.1))) h15 h17 fun h18 => gq (.nsq (zi (t := decide (x_94 < x_1.1)) h18 h (fun h => ?_) (fun h => ?_))))))
   · refine .skip (.nsq (.seq (.block (.seq (rg (g1 2 (gV x_1) h2 fun h21 => gm h1 fun h22 => gm h6 fun h23 => ?_))))))
     obtain ⟨e_116, E_e_116, h⟩ := bind_some h
     refine gv (.ref .sh 0 [] (ji e_116)) (yu (t := .sh) (lo := 0) (xs := x_2) h22 h23 E_e_116 rfl rfl) fun h24 => g1 24 (ji e_116) h24 fun h25 => gm h7 fun h26 => ?_
     obtain ⟨r_117, E_r_117, h⟩ := bind_some h
     refine zB (m := 0) (al := false) (r := Enc.enc (r_117 : Bool)) [Enc.enc (x_1 : GR), Enc.enc (e_116 : Int), Enc.enc (x_94 : Int)] (zd (v := gV x_1) h21 rfl (Enc.erase_enc (x_1 : GR)) (zd (v := ji e_116) h25 rfl rfl (zd (v := ji x_94) h26 rfl rfl zw))) (H.c52 _ _ _ _ E_r_117) H.g52 rfl rfl rfl rfl (gm (rf (jb r_117)) fun h28 => zP (c := r_117) h (fun hg8 h => ?_) (fun hg8 h => ?_))
     · refine zg (ct h28 hg8) (gm h1 fun h29 => zg (ct h28 hg8) (gm h7 fun h30 => ?_))
       obtain ⟨r_118, E_r_118, h⟩ := bind_some h
       refine zg (ct h28 hg8) (zB (m := 0) (al := false) (r := Enc.enc (r_118 : Bool)) [eL x_2, Enc.enc (x_94 : Int)] (zd (v := eL x_2) h29 rfl (Enc.erase_enc (x_2 : LI)) (zd (v := ji x_94) h30 rfl rfl zw)) (H.c53 _ _ _ E_r_118) H.g53 rfl rfl rfl rfl (zg (ct h28 hg8) (g1 31 (jb (!r_118)) (rf (jb r_118)) fun h32 => g2 28 32 (jb (!r_118)) (ct h28 hg8) h32 fun h33 => gq ?_)))
       exact Qx H x_2 x_1 x_93 x_42 x_94 c1 Hc1 (yY F x_2 x_1 x_42 c1 k) ih (!r_118) _ ⟨h1, h2, h4, h5, h6, h7, h33⟩ h
     iterate 4 refine ym (ct h28 hg8) ?_
     refine g2 28 32 (jb false) (ct h28 hg8) (rf (.tup [])) fun h33 => gq ?_
     exact Qx H x_2 x_1 x_93 x_42 x_94 c1 Hc1 (yY F x_2 x_1 x_42 c1 k) ih false _ ⟨h1, h2, h4, h5, h6, h7, h33⟩ h
   refine .exit (.esq (.elp (.ebk (.nbk (.nsq (rg (gm h6 fun h13 => g1 13 (ji (w64 (x_42 + 1))) h13 fun h14 => gm h14 fun h6 => gq (.nlp ?_))))))))
   exact Hc1 x_93 (w64 (x_42 + 1)) _ ⟨h1, h2, h4, h5, h6⟩ h
def yW (F : Nat) (x_2 : LI) (x_1 : GR)  : Nat → LI → Int → Option LI
 | 0, _, _ => none
 | k + 1, x_41, x_42 =>
   bif decide (x_42 < (x_2.length : Int)) then
    yY F x_2 x_1 x_42 (yW F x_2 x_1 k) F x_41 0
   else
    some x_41
theorem zfM (H : H27 D σ F) (x_2 : LI) (x_1 : GR)  : ∀ (k : Nat) (x_41 : LI) (x_42 : Int) (s : Nat → V), zl [(1, eL x_2), (2, bG 2 x_1), (4, nI), (5, eL x_41), (6, ji x_42)] s → yW F x_2 x_1 k x_41 x_42 = some r → Run D σ (R27 r) (.run YO [.lp YO, .bk 0, .sq YY]) s := by
 intro k
 induction k with
 | zero => intro x_41 x_42 s _ h; exact nm h
 | succ k ih =>
   intro x_41 x_42 s hs h
   rw [yW] at h
   obtain ⟨h1, h2, h4, h5, h6⟩ := hs
   refine .seq (.seq (rg (gm h6 fun h9 => gm h1 fun h10 => gv (ji (x_2.length : Int)) (yo (xs := x_2) h10) fun h11 => g2 9 11 (jb (decide (x_42 < (x_2.length : Int)))) h9 h11 fun h12 => gq (.nsq (zi (t := decide (x_42 < (x_2.length : Int))) h12 h (fun h => ?_) (fun h => ?_))))))
   · refine .skip (.nsq (.seq (.block (.seq (rg (g0 (ji 0) fun h7 => gq (.nsq (.block (.loop ?_)))))))))
     exact zfh H x_2 x_1 x_42 (yW F x_2 x_1 k) ih F x_41 0 _ ⟨h1, h2, h4, h5, h6, h7⟩ h
   refine .exit (.esq (.elp (.ebk (.nsq (.seq (rg (gm h5 fun h40 => gm h40 fun h4 => gq (.nsq (.ret ?_)))))))))
   have hr := Option.some.inj h
   subst hr
   exact rrA (zf h4) (xL (yO (x := (x_41 : LI))))
def xx (F : Nat) (x_1 : GR) (x_2 : LI) : Option LI :=
 yW F x_2 x_1 F [] 0
theorem t27 (H : H27 D σ F) (x_1 : GR) (x_2 : LI) (s : Nat → V) (hs : zl [(0, gV x_1), (1, eL x_2)] s) (h : xx F x_1 x_2 = some r) : Run D σ (R27 r) (.run A27 []) s := by
 unfold xx at h
 obtain ⟨h0, h1⟩ := hs
 refine .seq (zt (zR ?_))
 refine ez [(0, _), (1, _), (2, _)] ⟨za h0 rfl mIE, za h1 rfl me, zb rfl⟩ ?_
 rintro s ⟨h0, h1, h2⟩
 refine xB (gV x_1) (zy h0 rfl) h2 rfl (g0 nI fun h4 => gq (.nsq (.seq (zt (zR ?_)))))
 refine ez [(1, _), (2, _), (4, _), (8, _)] ⟨za h1 rfl me, za rfl rfl (zh rfl mIE), za h4 rfl rfl, zb rfl⟩ ?_
 rintro s ⟨h1, h2, h4, h8⟩
 refine xf [] [] trivial rfl rfl h8 (gm (rf (oI 8 [] (.of []))) fun h5 => yE (yq (r := 8) (x := 5) (v := _) h5 rfl (fun s_3 hg_3 => X1 (x := 5) (v := oI 5 [] (.of [])) [.at 5 []] (by exact (hg_3 5 _ _ h5 (zm (r := 8) (p := []) rfl rfl))) z5 (fun s_4 hg_4 => ?_))))
 refine ez [(1, eL x_2), (2, bG 2 x_1), (4, nI), (5, eL [])] ⟨hg_4 1 (eL x_2) (eL x_2) (hg_3 1 _ _ h1 me) zE, hg_4 2 (bG 2 x_1) (bG 2 x_1) (hg_3 2 _ _ h2 (zh rfl mIE)) (zS rfl zIE rfl), hg_4 4 nI nI (hg_3 4 _ nI h4 rfl) rfl, hg_4 5 (oI 5 [] (.of [])) (eL []) (hg_3 5 _ _ h5 (zm (r := 8) (p := []) rfl rfl)) Zf⟩ ?_
 rintro s ⟨h1, h2, h4, h5⟩
 refine .nsq (.seq (.seq (rg (g0 (ji 0) fun h6 => gq (.nsq (.block (.loop ?_)))))))
 exact zfM H x_2 x_1 F [] 0 _ ⟨h1, h2, h4, h5, h6⟩ h
end
def e27 (F : Nat) : Ent := ent 27 (fun (x : (GR × LI × Unit)) => xx F x.1 x.2.1) (fun (r : LI) => (eL r)) 0 true []
abbrev C27 (D : List V → Option V) (F : Nat) : Prop := ∀ (x0 : GR) (x1 : LI) r, xx F x0 x1 = some r → D [Enc.enc x0, Enc.enc x1] = some (eL r)
theorem p27 {F : Nat} : C27 (e27 F).den F := fun x0 x1 _ h => zJ (x0, x1, ()) h
theorem o27 {D : Den} {σ : Sig} {F : Nat} (hF : zu Try.prog D σ) (H : H27 D σ F) : (e27 F).Ok Try.prog := by
 refine yd (f := 27) (show unk 27 = 27 from rfl) (fun args r h => ?_) ⟨Try.f27, Try.func27, rfl, rfl⟩
 obtain ⟨⟨x0, x1, _⟩, y, rfl, hy, rfl⟩ := zH h
 exact zk hF (by kernel_rfl) Try.func27 rfl c27 (show 2 ≤ Try.f27.ntmps by decide) (t27 H x0 x1 _ ⟨rfl, rfl⟩ hy)
def zq1 : AC := (.cond (.t 22) .skip (.exit 0))
def zqe : AC := (.reg [] [jm 23 7, jv 24 (.bin .add (.t 23) (jn 1)), jm 7 24] [])
def zqW : AC := (.seq (.block 1 (.reg [.clr [32, 33]] [jm 25 6, jv 26 (.load (.ag [.s, .p]) (.t 2)), jm 27 1, jm 28 7, jv 29 (.slice (.t 27) none (some (.t 28)) 1), jx 30 (.call (jf 27) [.t 26, .t 29]), jv 31 (.len (.t 30)), jx 32 (.lit i0 1 [(0, 0, .t 31)]), jx 33 (.app .s (.t 25) (.t 32)), jm 6 33] [.home 33 6])) zqe)
def zjH : AC := (.seq (.seq (.reg [] [jm 19 7, jm 20 1, jv 21 (.len (.t 20)), jv 22 (.bin .leq (.t 19) (.t 21))] []) zq1) zqW)
def zmV : AC := (.seq (.reg [] [jm 34 6, jm 4 34, jv 5 (.mov kt)] [.home 6 4]) .ret)
def zlC : AC := (.cond (.t 17) (.seq (.reg [] [jm 18 6, jm 4 18, jv 5 (.mov kf)] []) .ret) .skip)
def zrt : AC := (.block 0 (.loop zjH))
def znA : AC := (.seq (.seq (.reg [] [jv 7 (.mov (jn 1))] []) zrt) zmV)
def zn8 : AC := (.seq (.seq (.reg [] [jv 9 (.load (.ag [.s, .p]) (.t 2)), jx 10 (.call (jf 25) [.t 9]), jv 11 (.un .not (.t 10)), jm 12 11, jg 13 12 false (.load (.ag [.s, .p]) (.t 2)), jg 14 12 false (.mov (.t 1)), .mk (some 15) (some (12, false)) false (.call (jf 26) [.t 13, .t 14]), jg 16 12 false (.un .not (.t 15)), jv 17 (.pick (.t 12) kt (.t 16))] []) zlC) znA)
def zqL : AC := (.seq (.reg [.clr [8]] [jx 8 (.lit i0 0 []), jm 6 8] [.home 8 6]) zn8)
def A7 : AC := (.seq (.reg [.clr [2]] [jx 2 (.box (.t 0)), jv 4 (.mov (.k (.sl .nl .s 0 []))), jv 5 (.mov kf)] []) zqL)
def an7 : List An := [⟨0, [.clr [2]], [], [], []⟩, ⟨1, [.clr [8]], [], [], [.home 8 6]⟩, ⟨7, [.clr [32, 33]], [], [], [.home 33 6]⟩, ⟨8, [], [], [], [.home 6 4]⟩]
theorem c7 : cC Try.prog Try.f7.ntmps an7 (Try.f7.body.getD .skip) = some A7 := by kernel_rfl
structure H7 (D : Den) (σ : Sig) (F : Nat) : Prop where
 c25 : C25 (D 25) F
 g25 : σ 25 = some (0, false)
 c26 : C26 (D 26) F
 g26 : σ 26 = some (0, false)
 c27 : C27 (D 27) F
 g27 : σ 27 = some (0, true)
abbrev R7 (r : (LI × Bool)) : (Nat → V) → Prop := RR Try.prog [.tmp 4, .tmp 5] 0 false (.tup [eL r.1, Enc.enc (r.2 : Bool)])
section
variable {D : Den} {σ : Sig} {F : Nat} {r : (LI × Bool)}
def xC (F : Nat) (x_2 : LI) (x_1 : GR)  : Nat → LI → Int → Option (LI × Bool)
 | 0, _, _ => none
 | k + 1, x_9, x_10 =>
   bif decide (x_10 ≤ (x_2.length : Int)) then
    (sub x_2 0 x_10).bind fun sub_14 =>
    (xx F x_1 sub_14).bind fun r_15 =>
    (wM x_9 [(r_15.length : Int)]).bind fun ap_16 =>
    (xC F x_2 x_1 k) ap_16 (w64 (x_10 + 1))
   else
    some (x_9, true)
theorem zhI (H : H7 D σ F) (x_2 : LI) (x_1 : GR)  : ∀ (k : Nat) (x_9 : LI) (x_10 : Int) (s : Nat → V), zl [(1, eL x_2), (2, bG 2 x_1), (4, nI), (5, jb false), (6, oI 6 [] (.of x_9)), (7, ji x_10)] s → xC F x_2 x_1 k x_9 x_10 = some r → Run D σ (R7 r) (.run zjH [.lp zjH, .bk 0, .sq zmV]) s := by
 intro k
 induction k with
 | zero => intro x_9 x_10 s _ h; exact nm h
 | succ k ih =>
   intro x_9 x_10 s hs h
   rw [xC] at h
   obtain ⟨h1, h2, h4, h5, h6, h7⟩ := hs
   refine .seq (.seq (rg (gm h7 fun h19 => gm h1 fun h20 => gv (ji (x_2.length : Int)) (yo (xs := x_2) h20) fun h21 => g2 19 21 (jb (decide (x_10 ≤ (x_2.length : Int)))) h19 h21 fun h22 => gq (.nsq (zi (t := decide (x_10 ≤ (x_2.length : Int))) h22 h (fun h => ?_) (fun h => ?_))))))
   · refine .skip (.nsq (.seq (.block (zt (zR ?_)))))
     refine ez [(1, _), (2, _), (4, _), (5, _), (6, _), (7, _), (32, _), (33, _)] ⟨za h1 rfl me, za h2 rfl (zh rfl mIE), za h4 rfl rfl, za h5 rfl mb, za h6 rfl (zm (r := 6) (p := []) rfl rfl), za h7 rfl mi, zb rfl, zb rfl⟩ ?_
     rintro s ⟨h1, h2, h4, h5, h6, h7, h32, h33⟩
     refine gm h6 fun h25 => g1 2 (gV x_1) h2 fun h26 => gm h1 fun h27 => gm h7 fun h28 => ?_
     obtain ⟨sub_14, E_sub_14, h⟩ := bind_some h
     refine gv (eL sub_14) (Wj (xs := x_2) h27 (vM) (v5 h28) E_sub_14 rfl) fun h29 => ?_
     obtain ⟨r_15, E_r_15, h⟩ := bind_some h
     refine zB (m := 0) (al := true) (r := eL r_15) [Enc.enc (x_1 : GR), eL sub_14] (zd (v := gV x_1) h26 rfl (Enc.erase_enc (x_1 : GR)) (zd (v := eL sub_14) h29 rfl (Enc.erase_enc (sub_14 : LI)) zw)) (H.c27 _ _ _ E_r_15) H.g27 (Zd (xk (v := gV x_1) h26 rfl rfl (xk (v := eL sub_14) h29 rfl rfl uV))) rfl rfl rfl (gv (ji (r_15.length : Int)) (yo (xs := r_15) rfl) fun h31 => xf [(31, ji (r_15.length : Int))] [Enc.enc ((r_15.length : Int) : Int)] h31 rfl rfl h32 ?_)
     obtain ⟨ap_16, E_ap_16, h⟩ := bind_some h
     refine XZ (q := 6) (p := []) (o := .of (x_9 : LI)) (ys := ([(r_15.length : Int)] : LI)) (t2 := .at 32 []) (lo2 := 0) h25 rfl rfl h33 (ZV (o := .of (x_9 : LI)) E_ap_16 trivial) (fun s_11 ha_11 => gm (rf (oI 33 [] (.of ap_16))) fun h6 => yE (yq (r := 33) (x := 6) (v := _) h6 rfl (fun s_12 hg_12 => ?_)))
     refine ez [(1, eL x_2), (2, bG 2 x_1), (4, nI), (5, jb false), (6, oI 6 [] (.of ap_16)), (7, ji x_10)] ⟨hg_12 1 _ _ (show s_11 1 = (eL x_2) from zU ha_11 h1 me) me, hg_12 2 _ _ (show s_11 2 = (bG 2 x_1) from zU ha_11 h2 (zh rfl mIE)) (zh rfl mIE), hg_12 4 _ nI (show s_11 4 = nI from zU ha_11 h4 rfl) rfl, hg_12 5 _ _ (show s_11 5 = (jb false) from zU ha_11 h5 mb) mb, hg_12 6 _ _ h6 (zm (r := 33) (p := []) rfl rfl), hg_12 7 _ _ (show s_11 7 = (ji x_10) from zU ha_11 h7 mi) mi⟩ ?_
     rintro s ⟨h1, h2, h4, h5, h6, h7⟩
     refine .nbk (.nsq (rg (gm h7 fun h23 => g1 23 (ji (w64 (x_10 + 1))) h23 fun h24 => gm h24 fun h7 => gq (.nlp ?_))))
     exact ih ap_16 (w64 (x_10 + 1)) _ ⟨h1, h2, h4, h5, h6, h7⟩ h
   refine .exit (.esq (.elp (.ebk (.nsq (.seq (rg (gm h6 fun h34 => gm h34 fun h4 => g0 (jb true) fun h5 => yE (yq (r := 6) (x := 4) (v := _) h4 rfl (fun s_13 hg_13 => ?_)))))))))
   refine ez [(4, oI 4 [] (.of x_9)), (5, jb true)] ⟨hg_13 4 _ _ h4 (zm (r := 6) (p := []) rfl rfl), hg_13 5 _ _ h5 mb⟩ ?_
   rintro s ⟨h4, h5⟩
   refine .nsq (.ret ?_)
   have hr := Option.some.inj h
   subst hr
   exact rrB (zf h4) (zf h5) (ug (wo (zY (wz (o := .of x_9)) (zY (yO (x := (true : Bool))) xv))) (US (xe (wn rfl) (xe rfl uP))))
def vj (F : Nat) (x_2 : LI) (x_1 : GR)  (x_5 : Bool) : Option (LI × Bool) :=
 bif x_5 then
  some ([], false)
 else
  xC F x_2 x_1 F [] 1
theorem zcy (H : H7 D σ F) (x_2 : LI) (x_1 : GR)  (x_5 : Bool) (s : Nat → V) (hs : zl [(1, eL x_2), (2, bG 2 x_1), (4, nI), (5, jb false), (6, oI 6 [] (.of [])), (17, jb x_5)] s) (h : vj F x_2 x_1  x_5 = some r) : Run D σ (R7 r) (.nrm [.sq zlC, .sq znA]) s := by
 unfold vj at h
 obtain ⟨h1, h2, h4, h5, h6, h17⟩ := hs
 refine .nsq (zi (t := x_5) h17 h (fun h => ?_) (fun h => ?_))
 · refine .seq (rg (gm h6 fun h18 => gm h18 fun h4 => g0 (jb false) fun h5 => gq (.nsq (.ret ?_))))
   have hr := Option.some.inj h
   subst hr
   exact rrB (zf h4) (zf h5) (ug (wo (zY (wz (o := .of [])) (zY (yO (x := (false : Bool))) xv))) (US (xe (wn rfl) (xe rfl uP))))
 refine .skip (.nsq (.seq (.seq (rg (g0 (ji 1) fun h7 => gq (.nsq (.block (.loop ?_))))))))
 exact zhI H x_2 x_1 F [] 1 _ ⟨h1, h2, h4, h5, h6, h7⟩ h
def w8 (F : Nat) (x_1 : GR) (x_2 : LI) : Option (LI × Bool) :=
 (vf F x_1).bind fun r_17 =>
 bif (!r_17) then
  vj F x_2 x_1 true
 else
  (vB F x_1 x_2).bind fun r_18 =>
  vj F x_2 x_1 (!r_18)
theorem t7 (H : H7 D σ F) (x_1 : GR) (x_2 : LI) (s : Nat → V) (hs : zl [(0, gV x_1), (1, eL x_2)] s) (h : w8 F x_1 x_2 = some r) : Run D σ (R7 r) (.run A7 []) s := by
 unfold w8 at h
 obtain ⟨h0, h1⟩ := hs
 refine .seq (zt (zR ?_))
 refine ez [(0, _), (1, _), (2, _)] ⟨za h0 rfl mIE, za h1 rfl me, zb rfl⟩ ?_
 rintro s ⟨h0, h1, h2⟩
 refine xB (gV x_1) (zy h0 rfl) h2 rfl (g0 nI fun h4 => g0 (jb false) fun h5 => gq (.nsq (.seq (zt (zR ?_)))))
 refine ez [(1, _), (2, _), (4, _), (5, _), (8, _)] ⟨za h1 rfl me, za rfl rfl (zh rfl mIE), za h4 rfl rfl, za h5 rfl mb, zb rfl⟩ ?_
 rintro s ⟨h1, h2, h4, h5, h8⟩
 refine xf [] [] trivial rfl rfl h8 (gm (rf (oI 8 [] (.of []))) fun h6 => yE (yq (r := 8) (x := 6) (v := _) h6 rfl (fun s_3 hg_3 => ?_)))
 refine ez [(1, eL x_2), (2, bG 2 x_1), (4, nI), (5, jb false), (6, oI 6 [] (.of []))] ⟨hg_3 1 _ _ h1 me, hg_3 2 _ _ h2 (zh rfl mIE), hg_3 4 _ _ h4 rfl, hg_3 5 _ _ h5 mb, hg_3 6 _ _ h6 (zm (r := 8) (p := []) rfl rfl)⟩ ?_
 rintro s ⟨h1, h2, h4, h5, h6⟩
 refine .nsq (.seq (.seq (rg (g1 2 (gV x_1) h2 fun h9 => ?_))))
 obtain ⟨r_17, E_r_17, h⟩ := bind_some h
 refine zB (m := 0) (al := false) (r := Enc.enc (r_17 : Bool)) [Enc.enc (x_1 : GR)] (zd (v := gV x_1) h9 rfl (Enc.erase_enc (x_1 : GR)) zw) (H.c25 _ _ E_r_17) H.g25 rfl rfl rfl rfl (g1 10 (jb (!r_17)) (rf (jb r_17)) fun h11 => gm h11 fun h12 => zP (c := (!r_17)) h (fun hg4 h => ?_) (fun hg4 h => ?_))
 · iterate 4 refine ym (ct h12 hg4) ?_
   refine g2 12 16 (jb true) (ct h12 hg4) (rf (.tup [])) fun h17 => gq ?_
   exact zcy H x_2 x_1 true _ ⟨h1, h2, h4, h5, h6, h17⟩ h
 refine zg (ct h12 hg4) (g1 2 (gV x_1) h2 fun h13 => zg (ct h12 hg4) (gm h1 fun h14 => ?_))
 obtain ⟨r_18, E_r_18, h⟩ := bind_some h
 refine zg (ct h12 hg4) (zB (m := 0) (al := false) (r := Enc.enc (r_18 : Bool)) [Enc.enc (x_1 : GR), eL x_2] (zd (v := gV x_1) h13 rfl (Enc.erase_enc (x_1 : GR)) (zd (v := eL x_2) h14 rfl (Enc.erase_enc (x_2 : LI)) zw)) (H.c26 _ _ _ E_r_18) H.g26 rfl rfl rfl rfl (zg (ct h12 hg4) (g1 15 (jb (!r_18)) (rf (jb r_18)) fun h16 => g2 12 16 (jb (!r_18)) (ct h12 hg4) h16 fun h17 => gq ?_)))
 exact zcy H x_2 x_1 (!r_18) _ ⟨h1, h2, h4, h5, h6, h17⟩ h
end
def e7 (F : Nat) : Ent := ent 7 (fun (x : (GR × LI × Unit)) => w8 F x.1 x.2.1) (fun (r : (LI × Bool)) => (.tup [eL r.1, Enc.enc (r.2 : Bool)])) 0 false []
abbrev C7 (D : List V → Option V) (F : Nat) : Prop := ∀ (x0 : GR) (x1 : LI) r, w8 F x0 x1 = some r → D [Enc.enc x0, Enc.enc x1] = some (.tup [eL r.1, Enc.enc (r.2 : Bool)])
theorem p7 {F : Nat} : C7 (e7 F).den F := fun x0 x1 _ h => zJ (x0, x1, ()) h
theorem o7 {D : Den} {σ : Sig} {F : Nat} (hF : zu Try.prog D σ) (H : H7 D σ F) : (e7 F).Ok Try.prog := by
 refine yd (f := 7) (show unk 7 = 7 from rfl) (fun args r h => ?_) ⟨Try.f7, Try.func7, rfl, rfl⟩
 obtain ⟨⟨x0, x1, _⟩, y, rfl, hy, rfl⟩ := zH h
 exact zk hF (by kernel_rfl) Try.func7 rfl c7 (show 2 ≤ Try.f7.ntmps by decide) (t7 H x0 x1 _ ⟨rfl, rfl⟩ hy)
def zqz : AC := (.cond (.t 14) .skip (.exit 0))
def zqx : AC := (.cond (.t 25) (.seq (.reg [] [jv 4 (.mov kf)] []) .ret) .skip)
def zrF : AC := (.reg [] [jm 15 5, jv 16 (.bin .add (.t 15) (jn 1)), jm 5 16] [])
def zrp : AC := (.seq (.block 1 (.seq (.reg [] [jm 17 0, jm 18 5, jv 19 (.idx (.t 17) (.t 18) 1), jv 20 (.load .s (.t 19)), jm 21 1, jm 22 5, jv 23 (.idx (.t 21) (.t 22) 1), jv 24 (.load .s (.t 23)), jv 25 (.bin .neq (.t 20) (.t 24))] []) zqx)) zrF)
def zjJ : AC := (.seq (.seq (.reg [] [jm 11 5, jm 12 0, jv 13 (.len (.t 12)), jv 14 (.bin .lss (.t 11) (.t 13))] []) zqz) zrp)
def zmw : AC := (.seq (.reg [] [jv 4 (.mov kt)] []) .ret)
def zru : AC := (.cond (.t 10) (.seq (.reg [] [jv 4 (.mov kf)] []) .ret) .skip)
def zlM : AC := (.block 0 (.loop zjJ))
def zqQ : AC := (.seq (.seq (.reg [] [jv 5 (.mov (jn 0))] []) zlM) zmw)
def zqT : AC := (.seq (.seq (.reg [] [jm 6 0, jv 7 (.len (.t 6)), jm 8 1, jv 9 (.len (.t 8)), jv 10 (.bin .neq (.t 7) (.t 9))] []) zru) zqQ)
def A8 : AC := (.seq (.reg [] [jv 4 (.mov kf)] []) zqT)
def an8 : List An := []
theorem c8 : cC Try.prog Try.f8.ntmps an8 (Try.f8.body.getD .skip) = some A8 := by kernel_rfl
structure H8 (D : Den) (σ : Sig) (F : Nat) : Prop where
 mk ::
abbrev R8 (r : Bool) : (Nat → V) → Prop := RR Try.prog [.tmp 4] 0 false (Enc.enc (r : Bool))
section
variable {D : Den} {σ : Sig} {F : Nat} {r : Bool}
def ur (F : Nat) (x_1 : LI) (x_2 : LI)  : Nat → Int → Option Bool
 | 0, _ => none
 | k + 1, x_5 =>
   bif decide (x_5 < (x_1.length : Int)) then
    (idx x_1 x_5).bind fun e_8 =>
    (idx x_2 x_5).bind fun e_9 =>
    bif (e_8 != e_9) then
     some false
    else
     (ur F x_1 x_2 k) (w64 (x_5 + 1))
   else
    some true
theorem zhE (H : H8 D σ F) (x_1 : LI) (x_2 : LI)  : ∀ (k : Nat) (x_5 : Int) (s : Nat → V), zl [(0, eL x_1), (1, eL x_2), (4, jb false), (5, ji x_5)] s → ur F x_1 x_2 k x_5 = some r → Run D σ (R8 r) (.run zjJ [.lp zjJ, .bk 0, .sq zmw]) s := by
 intro k
 induction k with
 | zero => intro x_5 s _ h; exact nm h
 | succ k ih =>
   intro x_5 s hs h
   rw [ur] at h
   obtain ⟨h0, h1, h4, h5⟩ := hs
   refine .seq (.seq (rg (gm h5 fun h11 => gm h0 fun h12 => gv (ji (x_1.length : Int)) (yo (xs := x_1) h12) fun h13 => g2 11 13 (jb (decide (x_5 < (x_1.length : Int)))) h11 h13 fun h14 => gq (.nsq (zi (t := decide (x_5 < (x_1.length : Int))) h14 h (fun h => ?_) (fun h => ?_))))))
   · refine .skip (.nsq (.seq (.block (.seq (rg (gm h0 fun h17 => gm h5 fun h18 => ?_))))))
     obtain ⟨e_8, E_e_8, h⟩ := bind_some h
     refine gv (.ref .sh 0 [] (ji e_8)) (yu (t := .sh) (lo := 0) (xs := x_1) h17 h18 E_e_8 rfl rfl) fun h19 => g1 19 (ji e_8) h19 fun h20 => gm h1 fun h21 => gm h5 fun h22 => ?_
     obtain ⟨e_9, E_e_9, h⟩ := bind_some h
     refine gv (.ref .sh 0 [] (ji e_9)) (yu (t := .sh) (lo := 0) (xs := x_2) h21 h22 E_e_9 rfl rfl) fun h23 => g1 23 (ji e_9) h23 fun h24 => g2 20 24 (jb (e_8 != e_9)) h20 h24 fun h25 => gq (.nsq (zi (t := (e_8 != e_9)) h25 h (fun h => ?_) (fun h => ?_)))
     · refine .seq (rg (g0 (jb false) fun h4 => gq (.nsq (.ret ?_))))
       have hr := Option.some.inj h
       subst hr
       exact rrA (zf h4) rfl
     refine .skip (.nbk (.nsq (rg (gm h5 fun h15 => g1 15 (ji (w64 (x_5 + 1))) h15 fun h16 => gm h16 fun h5 => gq (.nlp ?_)))))
     exact ih (w64 (x_5 + 1)) _ ⟨h0, h1, h4, h5⟩ h
   refine .exit (.esq (.elp (.ebk (.nsq (.seq (rg (g0 (jb true) fun h4 => gq (.nsq (.ret ?_)))))))))
   have hr := Option.some.inj h
   subst hr
   exact rrA (zf h4) rfl
def ul (F : Nat) (x_1 : LI) (x_2 : LI) : Option Bool :=
 bif ((x_1.length : Int) != (x_2.length : Int)) then
  some false
 else
  ur F x_1 x_2 F 0
theorem t8 (H : H8 D σ F) (x_1 : LI) (x_2 : LI) (s : Nat → V) (hs : zl [(0, eL x_1), (1, eL x_2)] s) (h : ul F x_1 x_2 = some r) : Run D σ (R8 r) (.run A8 []) s := by
 unfold ul at h
 obtain ⟨h0, h1⟩ := hs
 refine .seq (rg (g0 (jb false) fun h4 => gq (.nsq (.seq (.seq (rg (gm h0 fun h6 => gv (ji (x_1.length : Int)) (yo (xs := x_1) h6) fun h7 => gm h1 fun h8 => gv (ji (x_2.length : Int)) (yo (xs := x_2) h8) fun h9 => g2 7 9 (jb ((x_1.length : Int) != (x_2.length : Int))) h7 h9 fun h10 => gq (.nsq (zi (t := ((x_1.length : Int) != (x_2.length : Int))) h10 h (fun h => ?_) (fun h => ?_))))))))))
 · refine .seq (rg (g0 (jb false) fun h4 => gq (.nsq (.ret ?_))))
   have hr := Option.some.inj h
   subst hr
   exact rrA (zf h4) rfl
 refine .skip (.nsq (.seq (.seq (rg (g0 (ji 0) fun h5 => gq (.nsq (.block (.loop ?_))))))))
 exact zhE H x_1 x_2 F 0 _ ⟨h0, h1, h4, h5⟩ h
end
def e8 (F : Nat) : Ent := ent 8 (fun (x : (LI × LI × Unit)) => ul F x.1 x.2.1) (fun (r : Bool) => (Enc.enc (r : Bool))) 0 false []
abbrev C8 (D : List V → Option V) (F : Nat) : Prop := ∀ (x0 : LI) (x1 : LI) r, ul F x0 x1 = some r → D [Enc.enc x0, Enc.enc x1] = some (Enc.enc (r : Bool))
theorem p8 {F : Nat} : C8 (e8 F).den F := fun x0 x1 _ h => zJ (x0, x1, ()) h
theorem o8 {D : Den} {σ : Sig} {F : Nat} (hF : zu Try.prog D σ) (H : H8 D σ F) : (e8 F).Ok Try.prog := by
 refine yd (f := 8) (show unk 8 = 8 from rfl) (fun args r h => ?_) ⟨Try.f8, Try.func8, rfl, rfl⟩
 obtain ⟨⟨x0, x1, _⟩, y, rfl, hy, rfl⟩ := zH h
 exact zk hF (by kernel_rfl) Try.func8 rfl c8 (show 2 ≤ Try.f8.ntmps by decide) (t8 H x0 x1 _ ⟨rfl, rfl⟩ hy)
def zq3 : AC := (.cond (.t 8) (.seq (.reg [] [jv 4 (.mov kf), jv 5 (.mov kf)] []) .ret) .skip)
def zp0 : AC := (.seq (.reg [] [jv 9 (.load (.ag [.s, .p]) (.t 2)), jm 10 1, jx 11 (.call (jf 22) [.t 9, .t 10]), jm 4 11, jv 5 (.mov kt)] []) .ret)
def zrD : AC := (.seq (.seq (.reg [] [jv 6 (.load (.ag [.s, .p]) (.t 2)), jx 7 (.call (jf 21) [.t 6]), jv 8 (.un .not (.t 7))] []) zq3) zp0)
def A9 : AC := (.seq (.reg [.clr [2]] [jx 2 (.box (.t 0)), jv 4 (.mov kf), jv 5 (.mov kf)] []) zrD)
def an9 : List An := [⟨0, [.clr [2]], [], [], []⟩]
theorem c9 : cC Try.prog Try.f9.ntmps an9 (Try.f9.body.getD .skip) = some A9 := by kernel_rfl
structure H9 (D : Den) (σ : Sig) (F : Nat) : Prop where
 c21 : C21 (D 21) F
 g21 : σ 21 = some (0, false)
 c22 : C22 (D 22) F
 g22 : σ 22 = some (0, false)
abbrev R9 (r : (Bool × Bool)) : (Nat → V) → Prop := RR Try.prog [.tmp 4, .tmp 5] 0 false (.tup [Enc.enc (r.1 : Bool), Enc.enc (r.2 : Bool)])
section
variable {D : Den} {σ : Sig} {F : Nat} {r : (Bool × Bool)}
def vF (F : Nat) (x_1 : GR) (x_2 : LI) : Option (Bool × Bool) :=
 (xP F x_1).bind fun r_3 =>
 bif (!r_3) then
  some (false, false)
 else
  (vS F x_1 x_2).bind fun r_4 =>
  some (r_4, true)
theorem t9 (H : H9 D σ F) (x_1 : GR) (x_2 : LI) (s : Nat → V) (hs : zl [(0, gV x_1), (1, eL x_2)] s) (h : vF F x_1 x_2 = some r) : Run D σ (R9 r) (.run A9 []) s := by
 unfold vF at h
 obtain ⟨h0, h1⟩ := hs
 refine .seq (zt (zR ?_))
 refine ez [(0, _), (1, _), (2, _)] ⟨za h0 rfl mIE, za h1 rfl me, zb rfl⟩ ?_
 rintro s ⟨h0, h1, h2⟩
 refine xB (gV x_1) (zy h0 rfl) h2 rfl (g0 (jb false) fun h4 => g0 (jb false) fun h5 => gq (.nsq (.seq (.seq (rg (g1 2 (gV x_1) (rf (bG 2 x_1)) fun h6 => ?_))))))
 obtain ⟨r_3, E_r_3, h⟩ := bind_some h
 refine zB (m := 0) (al := false) (r := Enc.enc (r_3 : Bool)) [Enc.enc (x_1 : GR)] (zd (v := gV x_1) h6 rfl (Enc.erase_enc (x_1 : GR)) zw) (H.c21 _ _ E_r_3) H.g21 rfl rfl rfl rfl (g1 7 (jb (!r_3)) (rf (jb r_3)) fun h8 => gq (.nsq (zi (t := (!r_3)) h8 h (fun h => ?_) (fun h => ?_))))
 · refine .seq (rg (g0 (jb false) fun h4 => g0 (jb false) fun h5 => gq (.nsq (.ret ?_))))
   have hr := Option.some.inj h
   subst hr
   exact rrB (zf h4) (zf h5) rfl
 refine .skip (.nsq (.seq (rg (g1 2 (gV x_1) (rf (bG 2 x_1)) fun h9 => gm h1 fun h10 => ?_))))
 obtain ⟨r_4, E_r_4, h⟩ := bind_some h
 refine zB (m := 0) (al := false) (r := Enc.enc (r_4 : Bool)) [Enc.enc (x_1 : GR), eL x_2] (zd (v := gV x_1) h9 rfl (Enc.erase_enc (x_1 : GR)) (zd (v := eL x_2) h10 rfl (Enc.erase_enc (x_2 : LI)) zw)) (H.c22 _ _ _ E_r_4) H.g22 rfl rfl rfl rfl (gm (rf (jb r_4)) fun h4 => g0 (jb true) fun h5 => gq (.nsq (.ret ?_)))
 have hr := Option.some.inj h
 subst hr
 exact rrB (zf h4) (zf h5) rfl
end
def e9 (F : Nat) : Ent := ent 9 (fun (x : (GR × LI × Unit)) => vF F x.1 x.2.1) (fun (r : (Bool × Bool)) => (.tup [Enc.enc (r.1 : Bool), Enc.enc (r.2 : Bool)])) 0 false []
abbrev C9 (D : List V → Option V) (F : Nat) : Prop := ∀ (x0 : GR) (x1 : LI) r, vF F x0 x1 = some r → D [Enc.enc x0, Enc.enc x1] = some (.tup [Enc.enc (r.1 : Bool), Enc.enc (r.2 : Bool)])
theorem p9 {F : Nat} : C9 (e9 F).den F := fun x0 x1 _ h => zJ (x0, x1, ()) h
theorem o9 {D : Den} {σ : Sig} {F : Nat} (hF : zu Try.prog D σ) (H : H9 D σ F) : (e9 F).Ok Try.prog := by
 refine yd (f := 9) (show unk 9 = 9 from rfl) (fun args r h => ?_) ⟨Try.f9, Try.func9, rfl, rfl⟩
 obtain ⟨⟨x0, x1, _⟩, y, rfl, hy, rfl⟩ := zH h
 exact zk hF (by kernel_rfl) Try.func9 rfl c9 (show 2 ≤ Try.f9.ntmps by decide) (t9 H x0 x1 _ ⟨rfl, rfl⟩ hy)
def zlF : AC := (.cond (.t 8) (.seq (.reg [] [jv 4 (.mov kf), jv 5 (.mov kf)] []) .ret) .skip)
def zmL : AC := (.seq (.reg [] [jv 9 (.load (.ag [.s, .p]) (.t 2)), jm 10 1, jx 11 (.call (jf 26) [.t 9, .t 10]), jm 4 11, jv 5 (.mov kt)] []) .ret)
def zlG : AC := (.seq (.seq (.reg [] [jv 6 (.load (.ag [.s, .p]) (.t 2)), jx 7 (.call (jf 25) [.t 6]), jv 8 (.un .not (.t 7))] []) zlF) zmL)
def A10 : AC := (.seq (.reg [.clr [2]] [jx 2 (.box (.t 0)), jv 4 (.mov kf), jv 5 (.mov kf)] []) zlG)
def zqt : List An := [⟨0, [.clr [2]], [], [], []⟩]
theorem c10 : cC Try.prog Try.f10.ntmps zqt (Try.f10.body.getD .skip) = some A10 := by kernel_rfl
structure H10 (D : Den) (σ : Sig) (F : Nat) : Prop where
 c25 : C25 (D 25) F
 g25 : σ 25 = some (0, false)
 c26 : C26 (D 26) F
 g26 : σ 26 = some (0, false)
abbrev R10 (r : (Bool × Bool)) : (Nat → V) → Prop := RR Try.prog [.tmp 4, .tmp 5] 0 false (.tup [Enc.enc (r.1 : Bool), Enc.enc (r.2 : Bool)])
section
variable {D : Den} {σ : Sig} {F : Nat} {r : (Bool × Bool)}
def ut (F : Nat) (x_1 : GR) (x_2 : LI) : Option (Bool × Bool) :=
 (vf F x_1).bind fun r_3 =>
 bif (!r_3) then
  some (false, false)
 else
  (vB F x_1 x_2).bind fun r_4 =>
  some (r_4, true)
theorem t10 (H : H10 D σ F) (x_1 : GR) (x_2 : LI) (s : Nat → V) (hs : zl [(0, gV x_1), (1, eL x_2)] s) (h : ut F x_1 x_2 = some r) : Run D σ (R10 r) (.run A10 []) s := by
 unfold ut at h
 obtain ⟨h0, h1⟩ := hs
 refine .seq (zt (zR ?_))
 refine ez [(0, _), (1, _), (2, _)] ⟨za h0 rfl mIE, za h1 rfl me, zb rfl⟩ ?_
 rintro s ⟨h0, h1, h2⟩
 refine xB (gV x_1) (zy h0 rfl) h2 rfl (g0 (jb false) fun h4 => g0 (jb false) fun h5 => gq (.nsq (.seq (.seq (rg (g1 2 (gV x_1) (rf (bG 2 x_1)) fun h6 => ?_))))))
 obtain ⟨r_3, E_r_3, h⟩ := bind_some h
 refine zB (m := 0) (al := false) (r := Enc.enc (r_3 : Bool)) [Enc.enc (x_1 : GR)] (zd (v := gV x_1) h6 rfl (Enc.erase_enc (x_1 : GR)) zw) (H.c25 _ _ E_r_3) H.g25 rfl rfl rfl rfl (g1 7 (jb (!r_3)) (rf (jb r_3)) fun h8 => gq (.nsq (zi (t := (!r_3)) h8 h (fun h => ?_) (fun h => ?_))))
 · refine .seq (rg (g0 (jb false) fun h4 => g0 (jb false) fun h5 => gq (.nsq (.ret ?_))))
   have hr := Option.some.inj h
   subst hr
   exact rrB (zf h4) (zf h5) rfl
 refine .skip (.nsq (.seq (rg (g1 2 (gV x_1) (rf (bG 2 x_1)) fun h9 => gm h1 fun h10 => ?_))))
 obtain ⟨r_4, E_r_4, h⟩ := bind_some h
 refine zB (m := 0) (al := false) (r := Enc.enc (r_4 : Bool)) [Enc.enc (x_1 : GR), eL x_2] (zd (v := gV x_1) h9 rfl (Enc.erase_enc (x_1 : GR)) (zd (v := eL x_2) h10 rfl (Enc.erase_enc (x_2 : LI)) zw)) (H.c26 _ _ _ E_r_4) H.g26 rfl rfl rfl rfl (gm (rf (jb r_4)) fun h4 => g0 (jb true) fun h5 => gq (.nsq (.ret ?_)))
 have hr := Option.some.inj h
 subst hr
 exact rrB (zf h4) (zf h5) rfl
end
def e10 (F : Nat) : Ent := ent 10 (fun (x : (GR × LI × Unit)) => ut F x.1 x.2.1) (fun (r : (Bool × Bool)) => (.tup [Enc.enc (r.1 : Bool), Enc.enc (r.2 : Bool)])) 0 false []
abbrev C10 (D : List V → Option V) (F : Nat) : Prop := ∀ (x0 : GR) (x1 : LI) r, ut F x0 x1 = some r → D [Enc.enc x0, Enc.enc x1] = some (.tup [Enc.enc (r.1 : Bool), Enc.enc (r.2 : Bool)])
theorem p10 {F : Nat} : C10 (e10 F).den F := fun x0 x1 _ h => zJ (x0, x1, ()) h
theorem o10 {D : Den} {σ : Sig} {F : Nat} (hF : zu Try.prog D σ) (H : H10 D σ F) : (e10 F).Ok Try.prog := by
 refine yd (f := 10) (show unk 10 = 10 from rfl) (fun args r h => ?_) ⟨Try.f10, Try.func10, rfl, rfl⟩
 obtain ⟨⟨x0, x1, _⟩, y, rfl, hy, rfl⟩ := zH h
 exact zk hF (by kernel_rfl) Try.func10 rfl c10 (show 2 ≤ Try.f10.ntmps by decide) (t10 H x0 x1 _ ⟨rfl, rfl⟩ hy)
def zml : AC := (.seq (.reg [] [jv 3 (.fld (.t 1) 0 0), jv 4 (.load .p (.t 3)), jv 5 (.len (.t 4)), jv 6 (.bin .shl (jn 1) (.t 5)), jv 7 (.bin .sub (.t 6) (jn 1)), jm 2 7] []) .ret)
def A34 : AC := (.seq (.reg [.clr [1]] [jx 1 (.box (.t 0)), jv 2 (.mov (jn 0))] []) zml)
def zqb : List An := [⟨0, [.clr [1]], [], [], []⟩]
theorem c34 : cC Try.prog Try.f34.ntmps zqb (Try.f34.body.getD .skip) = some A34 := by kernel_rfl
structure H34 (D : Den) (σ : Sig) (F : Nat) : Prop where
 mk ::
abbrev R34 (r : Int) : (Nat → V) → Prop := RR Try.prog [.tmp 2] 0 false (Enc.enc (r : Int))
section
variable {D : Den} {σ : Sig} {F : Nat} {r : Int}
def y8 (F : Nat) (x_1 : (S1 LI)) : Option Int :=
 (ZW .i64 1 (x_1.a.length : Int)).bind fun q_2 =>
 some (w64 (q_2 - 1))
theorem t34 (H : H34 D σ F) (x_1 : (S1 LI)) (s : Nat → V) (hs : zl [(0, .agg [eL x_1.a])] s) (h : y8 F x_1 = some r) : Run D σ (R34 r) (.run A34 []) s := by
 unfold y8 at h
 have h0 := hs
 refine .seq (zt (zR ?_))
 refine ez [(0, _), (1, _)] ⟨za h0 rfl (zF (ze me zn)), zb rfl⟩ ?_
 rintro s ⟨h0, h1⟩
 refine xB (.agg [eL x_1.a]) (zy h0 rfl) h1 rfl (g0 (ji 0) fun h2 => gq (.nsq (.seq (rg (g1 1 (.ref (.bx 1) 0 [0] (eL x_1.a)) (rf (.ref (.bx 1) 0 [] (.agg [eL x_1.a]))) fun h3 => g1 3 (eL x_1.a) h3 fun h4 => gv (ji (x_1.a.length : Int)) (yo (xs := x_1.a) h4) fun h5 => ?_)))))
 obtain ⟨q_2, E_q_2, h⟩ := bind_some h
 refine gv (ji q_2) (v9 rfl h5 E_q_2) fun h6 => g1 6 (ji (w64 (q_2 - 1))) h6 fun h7 => gm h7 fun h2 => gq (.nsq (.ret ?_))
 have hr := Option.some.inj h
 subst hr
 exact rrA (zf h2) rfl
end
def e34 (F : Nat) : Ent := ent 34 (fun (x : ((S1 LI) × Unit)) => y8 F x.1) (fun (r : Int) => (Enc.enc (r : Int))) 0 false []
abbrev C34 (D : List V → Option V) (F : Nat) : Prop := ∀ (x0 : (S1 LI)) r, y8 F x0 = some r → D [Enc.enc x0] = some (Enc.enc (r : Int))
theorem p34 {F : Nat} : C34 (e34 F).den F := fun x0 _ h => zJ (x0, ()) h
theorem o34 {D : Den} {σ : Sig} {F : Nat} (hF : zu Try.prog D σ) (H : H34 D σ F) : (e34 F).Ok Try.prog := by
 refine yd (f := 34) (show unk 34 = 34 from rfl) (fun args r h => ?_) ⟨Try.f34, Try.func34, rfl, rfl⟩
 obtain ⟨⟨x0, _⟩, y, rfl, hy, rfl⟩ := zH h
 exact zk hF (by kernel_rfl) Try.func34 rfl c34 (show 1 ≤ Try.f34.ntmps by decide) (t34 H x0 _ rfl hy)
def zg2 : AC := (.cond (.t 19) .skip (.exit 0))
def zav : AC := (.cond (.t 58) (.reg [] [jm 59 7, jm 60 8, jm 61 11, jv 62 (.idx (.t 59) (.t 60) 1), jz (.store .s (.t 62) (.t 61))] []) .skip)
def zfe : AC := (.seq (.reg [] [jm 49 9, jv 50 (.bin .eql (.t 49) (jn 0)), jm 51 50, jg 52 51 false (.mov (.t 11)), jg 53 51 false (.mov (.t 7)), jg 54 51 false (.mov (.t 8)), jg 55 51 false (.idx (.t 53) (.t 54) 1), jg 56 51 false (.load .s (.t 55)), jg 57 51 false (.bin .lss (.t 52) (.t 56)), jv 58 (.pick (.t 51) kt (.t 57))] []) zav)
def zhG : AC := (.seq (.reg [] [jm 37 2, jm 38 8, jm 39 10, jx 40 (.call (.t 37) [.t 38, .t 39]), jm 41 7, jm 42 8, jm 43 10, jv 44 (.bin .shl (jn 1) (.t 43)), jv 45 (.bin .or (.t 42) (.t 44)), jv 46 (.idx (.t 41) (.t 45) 1), jv 47 (.load .s (.t 46)), jv 48 (.mx [.t 40, .t 47]), jm 11 48] []) zfe)
def K5 : AC := (.reg [] [jv 63 (.bin .add (.t 32) (jn 1)), jm 32 63] [])
def zhX : AC := (.seq (.block 3 (.seq (.reg [] [jm 34 32, jv 35 (.idx (.t 30) (.t 32) 1), jv 36 (.load .s (.t 35)), jm 9 34, jm 10 36] []) zhG)) K5)
def zg4 : AC := (.seq (.cond (.t 33) .skip (.exit 2)) zhX)
def Z2 : AC := (.seq (.reg [] [jv 33 (.bin .lss (.t 32) (.t 31))] []) zg4)
def zhS : AC := (.block 2 (.loop Z2))
def zhy : AC := (.seq (.reg [] [jv 26 (.load (.ag [.p]) (.t 3)), jx 27 (.call (jf 34) [.t 26]), jm 28 8, jv 29 (.bin .andNot (.t 27) (.t 28)), jx 30 (.call (jf 41) [.t 29]), jv 31 (.len (.t 30)), jv 32 (.mov (jn 0))] []) zhS)
def Xw : AC := (.reg [] [jm 20 8, jv 21 (.bin .sub (.t 20) (jn 1)), jm 8 21] [])
def zgU : AC := (.seq (.block 1 (.seq (.reg [] [jm 22 7, jm 23 8, jm 24 1, jv 25 (.idx (.t 22) (.t 23) 1), jz (.store .s (.t 25) (.t 24))] []) zhy)) Xw)
def vn : AC := (.seq (.seq (.reg [] [jm 18 8, jv 19 (.bin .geq (.t 18) (jn 0))] []) zg2) zgU)
def ud : AC := (.seq (.reg [] [jm 64 7, jm 6 64] [.home 7 6]) .ret)
def zf0 : AC := (.block 0 (.loop vn))
def ze2 : AC := (.seq (.seq (.reg [] [jv 16 (.load (.ag [.p]) (.t 3)), jx 17 (.call (jf 34) [.t 16]), jm 8 17] []) zf0) ud)
def zel : AC := (.seq (.reg [.clr [15]] [jv 12 (.load (.ag [.p]) (.t 3)), jx 13 (.call (jf 34) [.t 12]), jv 14 (.bin .add (.t 13) (jn 1)), jx 15 (.mk (.t 14) i0 i0), jm 7 15] [.home 15 7]) ze2)
def ziy : AC := (.seq (.reg [.clr [3]] [jx 3 (.box (.t 0)), jv 6 (.mov (.k (.sl .nl .s 0 [])))] []) zel)
def zju : List An := [⟨0, [.clr [3]], [], [], []⟩, ⟨1, [.clr [15]], [], [], [.home 15 7]⟩, ⟨13, [], [], [], [.home 7 6]⟩]
theorem c31s1 : cC Try.prog Try.f31.ntmps zju (Try.f31.body.getD .skip) = some ziy := by kernel_rfl
structure L3 (D : Den) (σ : Sig) (F : Nat) : Prop where
 c34 : C34 (D 34) F
 g34 : σ 34 = some (0, false)
 c41 : C41 (D 41) F
 g41 : σ 41 = some (0, false)
 c24 : C24 (D 24) F
 g24 : σ 24 = some (0, false)
abbrev W7 (r : LI) : (Nat → V) → Prop := RR Try.prog [.tmp 6] 0 false (eL r)
section
variable {D : Den} {σ : Sig} {F : Nat} {r : LI}
def yi (F : Nat) (x_2 : Int) (x_3 : (Cl 24 ((S1 LI) × Unit) Unit)) (x_1 : (S1 LI)) (x_43 : Int) (r_81 : LI) (x_93 : Int) (c1 : LI → Int → Option LI) (c4 : LI → Int → Option LI) (x_111 : LI) : Option LI :=
 c4 x_111 (w64 (x_93 + 1))
theorem KX (H : L3 D σ F) (x_2 : Int) (x_3 : (Cl 24 ((S1 LI) × Unit) Unit)) (x_1 : (S1 LI)) (x_43 : Int) (r_81 : LI) (x_93 : Int) (c1 : LI → Int → Option LI) (Hc1 : ∀ (x_42 : LI) (x_43 : Int) (s : Nat → V), zl [(1, ji x_2), (2, .fn 24 [.agg [eL x_3.fs.1.a]] []), (3, .ref (.bx 3) 0 [] (.agg [eL x_1.a])), (6, nI), (7, oI 7 [] (.of x_42)), (8, ji x_43)] s → c1 x_42 x_43 = some r → Run D σ (W7 r) (.run vn [.lp vn, .bk 0, .sq ud]) s) (c4 : LI → Int → Option LI) (Hc4 : ∀ (x_92 : LI) (x_93 : Int) (s : Nat → V), zl [(1, ji x_2), (2, .fn 24 [.agg [eL x_3.fs.1.a]] []), (3, .ref (.bx 3) 0 [] (.agg [eL x_1.a])), (6, nI), (7, oI 7 [] (.of x_92)), (8, ji x_43), (30, eL r_81), (31, ji (r_81.length : Int)), (32, ji x_93)] s → c4 x_92 x_93 = some r → Run D σ (W7 r) (.run Z2 [.lp Z2, .bk 2, .bk 1, .sq Xw, .lp vn, .bk 0, .sq ud]) s) (x_111 : LI) (s : Nat → V) (hs : zl [(1, ji x_2), (2, .fn 24 [.agg [eL x_3.fs.1.a]] []), (3, .ref (.bx 3) 0 [] (.agg [eL x_1.a])), (6, nI), (7, oI 7 [] (.of x_111)), (8, ji x_43), (30, eL r_81), (31, ji (r_81.length : Int)), (32, ji x_93)] s) (h : yi F x_2 x_3 x_1 x_43 r_81 x_93 c1 c4 x_111 = some r) : Run D σ (W7 r) (.nrm [.bk 3, .sq K5, .lp Z2, .bk 2, .bk 1, .sq Xw, .lp vn, .bk 0, .sq ud]) s := by
 unfold yi at h
 obtain ⟨h1, h2, h3, h6, h7, h8, h30, h31, h32⟩ := hs
 refine .nbk (.nsq (rg (g1 32 (ji (w64 (x_93 + 1))) h32 fun h63 => gm h63 fun h32 => gq (.nlp ?_))))
 exact Hc4 x_111 (w64 (x_93 + 1)) _ ⟨h1, h2, h3, h6, h7, h8, h30, h31, h32⟩ h
def yf (F : Nat) (x_2 : Int) (x_3 : (Cl 24 ((S1 LI) × Unit) Unit)) (x_1 : (S1 LI)) (x_92 : LI) (x_43 : Int) (e_107 : Int) (r_105 : Int) (r_81 : LI) (x_93 : Int) (c1 : LI → Int → Option LI) (c4 : LI → Int → Option LI) (x_109 : Bool) : Option LI :=
 bif x_109 then
  (idx x_92 x_43).bind fun e_112 =>
  yi F x_2 x_3 x_1 x_43 r_81 x_93 c1 c4 (x_92.set x_43.toNat (if e_107 > r_105 then e_107 else r_105))
 else
  yi F x_2 x_3 x_1 x_43 r_81 x_93 c1 c4 x_92
theorem Lb (H : L3 D σ F) (x_2 : Int) (x_3 : (Cl 24 ((S1 LI) × Unit) Unit)) (x_1 : (S1 LI)) (x_92 : LI) (x_43 : Int) (e_107 : Int) (r_105 : Int) (r_81 : LI) (x_93 : Int) (c1 : LI → Int → Option LI) (Hc1 : ∀ (x_42 : LI) (x_43 : Int) (s : Nat → V), zl [(1, ji x_2), (2, .fn 24 [.agg [eL x_3.fs.1.a]] []), (3, .ref (.bx 3) 0 [] (.agg [eL x_1.a])), (6, nI), (7, oI 7 [] (.of x_42)), (8, ji x_43)] s → c1 x_42 x_43 = some r → Run D σ (W7 r) (.run vn [.lp vn, .bk 0, .sq ud]) s) (c4 : LI → Int → Option LI) (Hc4 : ∀ (x_92 : LI) (x_93 : Int) (s : Nat → V), zl [(1, ji x_2), (2, .fn 24 [.agg [eL x_3.fs.1.a]] []), (3, .ref (.bx 3) 0 [] (.agg [eL x_1.a])), (6, nI), (7, oI 7 [] (.of x_92)), (8, ji x_43), (30, eL r_81), (31, ji (r_81.length : Int)), (32, ji x_93)] s → c4 x_92 x_93 = some r → Run D σ (W7 r) (.run Z2 [.lp Z2, .bk 2, .bk 1, .sq Xw, .lp vn, .bk 0, .sq ud]) s) (x_109 : Bool) (s : Nat → V) (hs : zl [(1, ji x_2), (2, .fn 24 [.agg [eL x_3.fs.1.a]] []), (3, .ref (.bx 3) 0 [] (.agg [eL x_1.a])), (6, nI), (7, oI 7 [] (.of x_92)), (8, ji x_43), (11, ji (if e_107 > r_105 then e_107 else r_105)), (30, eL r_81), (31, ji (r_81.length : Int)), (32, ji x_93), (58, jb x_109)] s) (h : yf F x_2 x_3 x_1 x_92 x_43 e_107 r_105 r_81 x_93 c1 c4 x_109 = some r) : Run D σ (W7 r) (.nrm [.sq zav, .bk 3, .sq K5, .lp Z2, .bk 2, .bk 1, .sq Xw, .lp vn, .bk 0, .sq ud]) s := by
 unfold yf at h
 obtain ⟨h1, h2, h3, h6, h7, h8, h11, h30, h31, h32, h58⟩ := hs
 refine .nsq (zi (t := x_109) h58 h (fun h => ?_) (fun h => ?_))
 · refine rg (gm h7 fun h59 => gm h8 fun h60 => gm h11 fun h61 => ?_)
   obtain ⟨e_112, E_e_112, h⟩ := bind_some h
   refine gv (.ref (.at 7 []) x_43.toNat [] (ji e_112)) (vo (o := .of x_92) h59 h60 E_e_112 rfl) fun h62 => z7 (ji (if e_107 > r_105 then e_107 else r_105)) (zy h62 rfl) (zy h61 rfl) (xR (by first | rfl | simp [V.toks, V.tokss, Enc.toks_enc, z4])) ?_
   refine gz [(1, ji x_2), (2, .fn 24 [.agg [eL x_3.fs.1.a]] []), (3, .ref (.bx 3) 0 [] (.agg [eL x_1.a])), (6, nI), (7, _), (8, ji x_43), (30, eL r_81), (31, ji (r_81.length : Int)), (32, ji x_93)] ⟨zc h1 rfl, zc h2 (zf9 (zq (yp (zq uE rfl)) rfl) rfl), zc h3 (zD rfl rfl (yp (zq uE rfl))), zc h6 rfl, zc h7 WG, zc h8 rfl, zc h30 uE, zc h31 rfl, zc h32 rfl⟩ ?_
   rintro s ⟨h1, h2, h3, h6, h7, h8, h30, h31, h32⟩
   exact KX H x_2 x_3 x_1 x_43 r_81 x_93 c1 Hc1 c4 Hc4 (x_92.set x_43.toNat (if e_107 > r_105 then e_107 else r_105)) _ ⟨h1, h2, h3, h6, h7, h8, h30, h31, h32⟩ h
 refine .skip ?_
 exact KX H x_2 x_3 x_1 x_43 r_81 x_93 c1 Hc1 c4 Hc4 x_92 _ ⟨h1, h2, h3, h6, h7, h8, h30, h31, h32⟩ h
def zC (F : Nat) (x_2 : Int) (x_3 : (Cl 24 ((S1 LI) × Unit) Unit)) (x_1 : (S1 LI)) (x_43 : Int) (r_81 : LI) (c1 : LI → Int → Option LI) : Nat → LI → Int → Option LI
 | 0, _, _ => none
 | k + 1, x_92, x_93 =>
   bif decide (x_93 < (r_81.length : Int)) then
    (idx r_81 x_93).bind fun e_104 =>
    (yr F x_3.fs.1 x_43 e_104).bind fun r_105 =>
    (ZW .i64 1 e_104).bind fun q_106 =>
    (idx x_92 (ior .i64 x_43 q_106)).bind fun e_107 =>
    bif (x_93 == 0) then
     yf F x_2 x_3 x_1 x_92 x_43 e_107 r_105 r_81 x_93 c1 (zC F x_2 x_3 x_1 x_43 r_81 c1 k) true
    else
     (idx x_92 x_43).bind fun e_113 =>
     yf F x_2 x_3 x_1 x_92 x_43 e_107 r_105 r_81 x_93 c1 (zC F x_2 x_3 x_1 x_43 r_81 c1 k) (decide ((if e_107 > r_105 then e_107 else r_105) < e_113))
   else
    c1 x_92 (w64 (x_43 - 1))
theorem zbv (H : L3 D σ F) (x_2 : Int) (x_3 : (Cl 24 ((S1 LI) × Unit) Unit)) (x_1 : (S1 LI)) (x_43 : Int) (r_81 : LI) (c1 : LI → Int → Option LI) (Hc1 : ∀ (x_42 : LI) (x_43 : Int) (s : Nat → V), zl [(1, ji x_2), (2, .fn 24 [.agg [eL x_3.fs.1.a]] []), (3, .ref (.bx 3) 0 [] (.agg [eL x_1.a])), (6, nI), (7, oI 7 [] (.of x_42)), (8, ji x_43)] s → c1 x_42 x_43 = some r → Run D σ (W7 r) (.run vn [.lp vn, .bk 0, .sq ud]) s) : ∀ (k : Nat) (x_92 : LI) (x_93 : Int) (s : Nat → V), zl [(1, ji x_2), (2, .fn 24 [.agg [eL x_3.fs.1.a]] []), (3, .ref (.bx 3) 0 [] (.agg [eL x_1.a])), (6, nI), (7, oI 7 [] (.of x_92)), (8, ji x_43), (30, eL r_81), (31, ji (r_81.length : Int)), (32, ji x_93)] s → zC F x_2 x_3 x_1 x_43 r_81 c1 k x_92 x_93 = some r → Run D σ (W7 r) (.run Z2 [.lp Z2, .bk 2, .bk 1, .sq Xw, .lp vn, .bk 0, .sq ud]) s := by
 intro k
 induction k with
 | zero => intro x_92 x_93 s _ h; exact nm h
 | succ k ih =>
   intro x_92 x_93 s hs h
   rw [zC] at h
   obtain ⟨h1, h2, h3, h6, h7, h8, h30, h31, h32⟩ := hs
   refine .seq (rg (g2 32 31 (jb (decide (x_93 < (r_81.length : Int)))) h32 h31 fun h33 => gq (.nsq (.seq (zi (t := decide (x_93 < (r_81.length : Int))) h33 h (fun h => ?_) (fun h => ?_))))))
   · refine .skip (.nsq (.seq (.block (.seq (rg (gm h32 fun h34 => ?_))))))
     obtain ⟨e_104, E_e_104, h⟩ := bind_some h
     refine gv (.ref .sh 0 [] (ji e_104)) (yu (t := .sh) (lo := 0) (xs := r_81) h30 h32 E_e_104 rfl rfl) fun h35 => g1 35 (ji e_104) h35 fun h36 => gm h34 fun h9 => gm h36 fun h10 => gq (.nsq (.seq (rg (gm h2 fun h37 => gm h8 fun h38 => gm h10 fun h39 => ?_))))
     obtain ⟨r_105, E_r_105, h⟩ := bind_some h
     refine zcH (m := 0) (al := false) (r := Enc.enc (r_105 : Int)) (fs := [.agg [eL x_3.fs.1.a]]) (env := []) (us := [Enc.enc (x_3.fs.1 : (S1 LI))]) (ws := []) h37 (vJ (Enc.erase_enc (x_3.fs.1 : (S1 LI))) wm) wm rfl [Enc.enc (x_43 : Int), Enc.enc (e_104 : Int)] (zd (v := ji x_43) h38 rfl rfl (zd (v := ji e_104) h39 rfl rfl zw)) (H.c24 _ _ _ _ E_r_105) H.g24 rfl rfl rfl rfl (gm h7 fun h41 => gm h8 fun h42 => gm h10 fun h43 => ?_)
     obtain ⟨q_106, E_q_106, h⟩ := bind_some h
     refine gv (ji q_106) (v9 rfl h43 E_q_106) fun h44 => g2 42 44 (ji (ior .i64 x_43 q_106)) h42 h44 fun h45 => ?_
     obtain ⟨e_107, E_e_107, h⟩ := bind_some h
     refine gv (.ref (.at 7 []) ((ior .i64 x_43 q_106).toNat) [] (ji e_107)) (vo (o := .of x_92) h41 h45 E_e_107 rfl) fun h46 => g1 46 (ji e_107) h46 fun h47 => g2 40 47 (ji (if e_107 > r_105 then e_107 else r_105)) (rf (ji r_105)) h47 fun h48 => gm h48 fun h11 => gq (.nsq (.seq (rg (gm h9 fun h49 => g1 49 (jb (x_93 == 0)) h49 fun h50 => gm h50 fun h51 => zP (c := (x_93 == 0)) h (fun hg3 h => ?_) (fun hg3 h => ?_)))))
     · iterate 6 refine ym (ct h51 hg3) ?_
       refine g2 51 57 (jb true) (ct h51 hg3) (rf (.tup [])) fun h58 => gz [(1, _), (2, _), (3, _), (6, _), (7, _), (8, _), (11, _), (30, _), (31, _), (32, _), (58, _)] ⟨h1, h2, h3, h6, h7, h8, h11, h30, h31, h32, h58⟩ ?_
       rintro s ⟨h1, h2, h3, h6, h7, h8, h11, h30, h31, h32, h58⟩
       exact Lb H x_2 x_3 x_1 x_92 x_43 e_107 r_105 r_81 x_93 c1 Hc1 (zC F x_2 x_3 x_1 x_43 r_81 c1 k) ih true _ ⟨h1, h2, h3, h6, h7, h8, h11, h30, h31, h32, h58⟩ h
     refine zg (ct h51 hg3) (gm h11 fun h52 => zg (ct h51 hg3) (gm h7 fun h53 => zg (ct h51 hg3) (gm h8 fun h54 => ?_)))
     obtain ⟨e_113, E_e_113, h⟩ := bind_some h
     refine zg (ct h51 hg3) (gv (.ref (.at 7 []) x_43.toNat [] (ji e_113)) (vo (o := .of x_92) h53 h54 E_e_113 rfl) fun h55 => zg (ct h51 hg3) (g1 55 (ji e_113) h55 fun h56 => zg (ct h51 hg3) (g2 52 56 (jb (decide ((if e_107 > r_105 then e_107 else r_105) < e_113))) h52 h56 fun h57 => g2 51 57 (jb (decide ((if e_107 > r_105 then e_107 else r_105) < e_113))) (ct h51 hg3) h57 fun h58 => gz [(1, _), (2, _), (3, _), (6, _), (7, _), (8, _), (11, _), (30, _), (31, _), (32, _), (58, _)] ⟨h1, h2, h3, h6, h7, h8, h11, h30, h31, h32, h58⟩ ?_)))
     rintro s ⟨h1, h2, h3, h6, h7, h8, h11, h30, h31, h32, h58⟩
     exact Lb H x_2 x_3 x_1 x_92 x_43 e_107 r_105 r_81 x_93 c1 Hc1 (zC F x_2 x_3 x_1 x_43 r_81 c1 k) ih (decide ((if e_107 > r_105 then e_107 else r_105) < e_113)) _ ⟨h1, h2, h3, h6, h7, h8, h11, h30, h31, h32, h58⟩ h
   refine .exit (.esq (.elp (.ebk (.nbk (.nsq (rg (gm h8 fun h20 => g1 20 (ji (w64 (x_43 - 1))) h20 fun h21 => gm h21 fun h8 => gq (.nlp ?_))))))))
   exact Hc1 x_92 (w64 (x_43 - 1)) _ ⟨h1, h2, h3, h6, h7, h8⟩ h
def zx (F : Nat) (x_2 : Int) (x_3 : (Cl 24 ((S1 LI) × Unit) Unit)) (x_1 : (S1 LI))  : Nat → LI → Int → Option LI
 | 0, _, _ => none
 | k + 1, x_42, x_43 =>
   bif decide (x_43 ≥ 0) then
    (idx x_42 x_43).bind fun e_79 =>
    (y8 F x_1).bind fun r_80 =>
    (uk F (wC .i64 r_80 x_43)).bind fun r_81 =>
    zC F x_2 x_3 x_1 x_43 r_81 (zx F x_2 x_3 x_1 k) F (x_42.set x_43.toNat x_2) 0
   else
    some x_42
theorem zaR (H : L3 D σ F) (x_2 : Int) (x_3 : (Cl 24 ((S1 LI) × Unit) Unit)) (x_1 : (S1 LI))  : ∀ (k : Nat) (x_42 : LI) (x_43 : Int) (s : Nat → V), zl [(1, ji x_2), (2, .fn 24 [.agg [eL x_3.fs.1.a]] []), (3, .ref (.bx 3) 0 [] (.agg [eL x_1.a])), (6, nI), (7, oI 7 [] (.of x_42)), (8, ji x_43)] s → zx F x_2 x_3 x_1 k x_42 x_43 = some r → Run D σ (W7 r) (.run vn [.lp vn, .bk 0, .sq ud]) s := by
 intro k
 induction k with
 | zero => intro x_42 x_43 s _ h; exact nm h
 | succ k ih =>
   intro x_42 x_43 s hs h
   rw [zx] at h
   obtain ⟨h1, h2, h3, h6, h7, h8⟩ := hs
   refine .seq (.seq (rg (gm h8 fun h18 => g1 18 (jb (decide (x_43 ≥ 0))) h18 fun h19 => gq (.nsq (zi (t := decide (x_43 ≥ 0)) h19 h (fun h => ?_) (fun h => ?_))))))
   · refine .skip (.nsq (.seq (.block (.seq (rg (gm h7 fun h22 => gm h8 fun h23 => gm h1 fun h24 => ?_))))))
     obtain ⟨e_79, E_e_79, h⟩ := bind_some h
     refine gv (.ref (.at 7 []) x_43.toNat [] (ji e_79)) (vo (o := .of x_42) h22 h23 E_e_79 rfl) fun h25 => z7 (ji x_2) (zy h25 rfl) (zy h24 rfl) (xR (by first | rfl | simp [V.toks, V.tokss, Enc.toks_enc, z4])) (gz [(1, ji x_2), (2, .fn 24 [.agg [eL x_3.fs.1.a]] []), (3, .ref (.bx 3) 0 [] (.agg [eL x_1.a])), (6, nI), (7, _), (8, ji x_43)] ⟨zc h1 rfl, zc h2 (zf9 (zq (yp (zq uE rfl)) rfl) rfl), zc h3 (zD rfl rfl (yp (zq uE rfl))), zc h6 rfl, zc h7 WG, zc h8 rfl⟩ ?_)
     rintro s ⟨h1, h2, h3, h6, h7, h8⟩
     refine .nsq (.seq (rg (g1 3 (.agg [eL x_1.a]) h3 fun h26 => ?_)))
     obtain ⟨r_80, E_r_80, h⟩ := bind_some h
     refine zB (m := 0) (al := false) (r := Enc.enc (r_80 : Int)) [Enc.enc (x_1 : (S1 LI))] (zd (v := .agg [eL x_1.a]) h26 rfl (Enc.erase_enc (x_1 : (S1 LI))) zw) (H.c34 _ _ E_r_80) H.g34 rfl rfl rfl rfl (gm h8 fun h28 => g2 27 28 (ji (wC .i64 r_80 x_43)) (rf (ji r_80)) h28 fun h29 => ?_)
     obtain ⟨r_81, E_r_81, h⟩ := bind_some h
     refine zB (m := 0) (al := false) (r := eL r_81) [Enc.enc (wC .i64 r_80 x_43 : Int)] (zd (v := ji (wC .i64 r_80 x_43)) h29 rfl rfl zw) (H.c41 _ _ E_r_81) H.g41 rfl rfl rfl rfl (gv (ji (r_81.length : Int)) (yo (xs := r_81) rfl) fun h31 => g0 (ji 0) fun h32 => gq (.nsq (.block (.loop ?_))))
     exact zbv H x_2 x_3 x_1 x_43 r_81 (zx F x_2 x_3 x_1 k) ih F (x_42.set x_43.toNat x_2) 0 _ ⟨h1, h2, h3, h6, h7, h8, rfl, h31, h32⟩ h
   refine .exit (.esq (.elp (.ebk (.nsq (.seq (rg (gm h7 fun h64 => gm h64 fun h6 => yE (yq (r := 7) (x := 6) (v := _) h6 rfl (fun s_4 hg_4 => ?_)))))))))
   refine ez [(6, oI 6 [] (.of x_42))] (hg_4 6 _ _ h6 (zm (r := 7) (p := []) rfl rfl)) ?_
   rintro s h6
   refine .nsq (.ret ?_)
   have hr := Option.some.inj h
   subst hr
   exact rrA (zf h6) (ug (wz (o := .of x_42)) (wn rfl))
def zO (F : Nat) (x_1 : (S1 LI)) (x_2 : Int) (x_3 : (Cl 24 ((S1 LI) × Unit) Unit)) : Option LI :=
 (y8 F x_1).bind fun r_4 =>
 (mkN (w64 (r_4 + 1)) (0 : Int)).bind fun mk_5 =>
 (y8 F x_1).bind fun r_6 =>
 zx F x_2 x_3 x_1 F mk_5 r_6
theorem zod (H : L3 D σ F) (x_1 : (S1 LI)) (x_2 : Int) (x_3 : (Cl 24 ((S1 LI) × Unit) Unit)) (s : Nat → V) (hs : zl [(0, .agg [eL x_1.a]), (1, ji x_2), (2, .fn 24 [.agg [eL x_3.fs.1.a]] [])] s) (h : zO F x_1 x_2 x_3 = some r) : Run D σ (W7 r) (.run ziy []) s := by
 unfold zO at h
 obtain ⟨h0, h1, h2⟩ := hs
 refine .seq (zt (zR ?_))
 refine ez [(0, _), (1, _), (2, _), (3, _)] ⟨za h0 rfl (zF (ze me zn)), za h1 rfl mi, za h2 rfl (Uc (ze (zF (ze me zn)) zn) zn), zb rfl⟩ ?_
 rintro s ⟨h0, h1, h2, h3⟩
 refine xB (.agg [eL x_1.a]) (zy h0 rfl) h3 rfl (g0 nI fun h6 => gq (.nsq (.seq (zt (zR ?_)))))
 refine ez [(1, _), (2, _), (3, _), (6, _), (15, _)] ⟨za h1 rfl mi, za h2 rfl (Uc (ze (zF (ze me zn)) zn) zn), za rfl rfl (zh rfl (zF (ze me zn))), za h6 rfl rfl, zb rfl⟩ ?_
 rintro s ⟨h1, h2, h3, h6, h15⟩
 refine g1 3 (.agg [eL x_1.a]) h3 fun h12 => ?_
 obtain ⟨r_4, E_r_4, h⟩ := bind_some h
 refine zB (m := 0) (al := false) (r := Enc.enc (r_4 : Int)) [Enc.enc (x_1 : (S1 LI))] (zd (v := .agg [eL x_1.a]) h12 rfl (Enc.erase_enc (x_1 : (S1 LI))) zw) (H.c34 _ _ E_r_4) H.g34 rfl rfl rfl rfl (g1 13 (ji (w64 (r_4 + 1))) (rf (ji r_4)) fun h14 => ?_)
 obtain ⟨mk_5, E_mk_5, h⟩ := bind_some h
 refine zhD (0 : Int) h14 rfl h15 E_mk_5 (gm (rf (oI 15 [] (.of mk_5))) fun h7 => yE (yq (r := 15) (x := 7) (v := _) h7 rfl (fun s_3 hg_3 => ?_)))
 refine ez [(1, ji x_2), (2, .fn 24 [.agg [eL x_3.fs.1.a]] []), (3, .ref (.bx 3) 0 [] (.agg [eL x_1.a])), (6, nI), (7, oI 7 [] (.of mk_5))] ⟨hg_3 1 _ _ h1 mi, hg_3 2 _ _ h2 (Uc (ze (zF (ze me zn)) zn) zn), hg_3 3 _ _ h3 (zh rfl (zF (ze me zn))), hg_3 6 _ _ h6 rfl, hg_3 7 _ _ h7 (zm (r := 15) (p := []) rfl rfl)⟩ ?_
 rintro s ⟨h1, h2, h3, h6, h7⟩
 refine .nsq (.seq (.seq (rg (g1 3 (.agg [eL x_1.a]) h3 fun h16 => ?_))))
 obtain ⟨r_6, E_r_6, h⟩ := bind_some h
 refine zB (m := 0) (al := false) (r := Enc.enc (r_6 : Int)) [Enc.enc (x_1 : (S1 LI))] (zd (v := .agg [eL x_1.a]) h16 rfl (Enc.erase_enc (x_1 : (S1 LI))) zw) (H.c34 _ _ E_r_6) H.g34 rfl rfl rfl rfl (gm (rf (ji r_6)) fun h8 => gq (.nsq (.block (.loop ?_))))
 exact zaR H x_2 x_3 x_1 F mk_5 r_6 _ ⟨h1, h2, h3, h6, h7, h8⟩ h
end
def zfP (F : Nat) : Ent := ent 31 (fun (x : ((S1 LI) × Int × (Cl 24 ((S1 LI) × Unit) Unit) × Unit)) => zO F x.1 x.2.1 x.2.2.1) (fun (r : LI) => (eL r)) 0 false [(2, 24)]
abbrev zee (D : List V → Option V) (F : Nat) : Prop := ∀ (x0 : (S1 LI)) (x1 : Int) (x2 : (Cl 24 ((S1 LI) × Unit) Unit)) r, zO F x0 x1 x2 = some r → D [Enc.enc x0, Enc.enc x1, Arg.arg x2] = some (eL r)
theorem zik {F : Nat} : zee (zfP F).den F := fun x0 x1 x2 _ h => zJ (x0, x1, x2, ()) h
theorem zne {D : Den} {σ : Sig} {F : Nat} (hF : zu Try.prog D σ) (H : L3 D σ F) : (zfP F).Ok Try.prog := by
 refine yd (f := 31) (show unk 31 = 31 from rfl) (fun args r h => ?_) ⟨Try.f31, Try.func31, rfl, rfl⟩
 obtain ⟨⟨x0, x1, x2, _⟩, y, rfl, hy, rfl⟩ := zH h
 exact zk hF (by kernel_rfl) Try.func31 rfl c31s1 (show 3 ≤ Try.f31.ntmps by decide) (zod H x0 x1 x2 _ ⟨rfl, rfl, rfl⟩ hy)
def zoG : AC := (.seq (.reg [] [jv 3 (.load (.ag [.p]) (.t 1)), jv 4 (.load (.ag [.p]) (.t 1)), jv 5 (.fn 24 [.t 4] []), jx 6 (.call (jf 31) [.t 3, jn 0, .t 5]), jv 7 (.idx (.t 6) (jn 0) 1), jv 8 (.load .s (.t 7)), jm 2 8] []) .ret)
def A28 : AC := (.seq (.reg [.clr [1]] [jx 1 (.box (.t 0)), jv 2 (.mov (jn 0))] []) zoG)
def zri : List An := [⟨0, [.clr [1]], [], [], []⟩]
theorem c28 : cC Try.prog Try.f28.ntmps zri (Try.f28.body.getD .skip) = some A28 := by kernel_rfl
structure H28 (D : Den) (σ : Sig) (F : Nat) : Prop where
 c31s1 : zee (D 31) F
 g31s1 : σ 31 = some (0, false)
abbrev R28 (r : Int) : (Nat → V) → Prop := RR Try.prog [.tmp 2] 0 false (Enc.enc (r : Int))
section
variable {D : Den} {σ : Sig} {F : Nat} {r : Int}
def xb (F : Nat) (x_1 : (S1 LI)) : Option Int :=
 (zO F x_1 0 (Cl.mk (x_1, ()) () : (Cl 24 ((S1 LI) × Unit) Unit))).bind fun r_2 =>
 (idx r_2 0).bind fun e_3 =>
 some e_3
theorem t28 (H : H28 D σ F) (x_1 : (S1 LI)) (s : Nat → V) (hs : zl [(0, .agg [eL x_1.a])] s) (h : xb F x_1 = some r) : Run D σ (R28 r) (.run A28 []) s := by
 unfold xb at h
 have h0 := hs
 refine .seq (zt (zR ?_))
 refine ez [(0, _), (1, _)] ⟨za h0 rfl (zF (ze me zn)), zb rfl⟩ ?_
 rintro s ⟨h0, h1⟩
 refine xB (.agg [eL x_1.a]) (zy h0 rfl) h1 rfl (g0 (ji 0) fun h2 => gq (.nsq (.seq (rg (g1 1 (.agg [eL x_1.a]) (rf (.ref (.bx 1) 0 [] (.agg [eL x_1.a]))) fun h3 => g1 1 (.agg [eL x_1.a]) (rf (.ref (.bx 1) 0 [] (.agg [eL x_1.a]))) fun h4 => g1 4 (.fn 24 [.agg [eL x_1.a]] []) h4 fun h5 => ?_)))))
 obtain ⟨r_2, E_r_2, h⟩ := bind_some h
 refine zB (m := 0) (al := false) (r := eL r_2) [Enc.enc (x_1 : (S1 LI)), Enc.enc (0 : Int), Arg.arg ((Cl.mk (x_1, ()) () : (Cl 24 ((S1 LI) × Unit) Unit)) : (Cl 24 ((S1 LI) × Unit) Unit))] (zd (v := .agg [eL x_1.a]) h3 rfl (Enc.erase_enc (x_1 : (S1 LI))) (zd (v := ji 0) rfl rfl rfl (zd (v := .fn 24 [.agg [eL x_1.a]] []) h5 rfl (KD (vJ (Enc.erase_enc (x_1 : (S1 LI))) wm) wm) zw))) (H.c31s1 _ _ _ _ E_r_2) H.g31s1 rfl rfl rfl rfl ?_
 obtain ⟨e_3, E_e_3, h⟩ := bind_some h
 refine gv (.ref .sh 0 [] (ji e_3)) (yu (t := .sh) (lo := 0) (xs := r_2) rfl rfl E_e_3 rfl rfl) fun h7 => g1 7 (ji e_3) h7 fun h8 => gm h8 fun h2 => gq (.nsq (.ret ?_))
 have hr := Option.some.inj h
 subst hr
 exact rrA (zf h2) rfl
end
def e28 (F : Nat) : Ent := ent 28 (fun (x : ((S1 LI) × Unit)) => xb F x.1) (fun (r : Int) => (Enc.enc (r : Int))) 0 false []
abbrev C28 (D : List V → Option V) (F : Nat) : Prop := ∀ (x0 : (S1 LI)) r, xb F x0 = some r → D [Enc.enc x0] = some (Enc.enc (r : Int))
theorem p28 {F : Nat} : C28 (e28 F).den F := fun x0 _ h => zJ (x0, ()) h
theorem o28 {D : Den} {σ : Sig} {F : Nat} (hF : zu Try.prog D σ) (H : H28 D σ F) : (e28 F).Ok Try.prog := by
 refine yd (f := 28) (show unk 28 = 28 from rfl) (fun args r h => ?_) ⟨Try.f28, Try.func28, rfl, rfl⟩
 obtain ⟨⟨x0, _⟩, y, rfl, hy, rfl⟩ := zH h
 exact zk hF (by kernel_rfl) Try.func28 rfl c28 (show 1 ≤ Try.f28.ntmps by decide) (t28 H x0 _ rfl hy)
def zn0 : AC := (.cond (.t 6) (.seq (.reg [] [jv 2 (.mov (jn 0)), jv 3 (.mov kf)] []) .ret) .skip)
def zkR : AC := (.seq (.reg [] [jv 7 (.load (.ag [.s, .p]) (.t 1)), jx 8 (.call (jf 23) [.t 7]), jx 9 (.call (jf 28) [.t 8]), jm 2 9, jv 3 (.mov kt)] []) .ret)
def zmp : AC := (.seq (.seq (.reg [] [jv 4 (.load (.ag [.s, .p]) (.t 1)), jx 5 (.call (jf 21) [.t 4]), jv 6 (.un .not (.t 5))] []) zn0) zkR)
def A11 : AC := (.seq (.reg [.clr [1]] [jx 1 (.box (.t 0)), jv 2 (.mov (jn 0)), jv 3 (.mov kf)] []) zmp)
def zq6 : List An := [⟨0, [.clr [1]], [], [], []⟩]
theorem c11 : cC Try.prog Try.f11.ntmps zq6 (Try.f11.body.getD .skip) = some A11 := by kernel_rfl
structure H11 (D : Den) (σ : Sig) (F : Nat) : Prop where
 c21 : C21 (D 21) F
 g21 : σ 21 = some (0, false)
 c23 : C23 (D 23) F
 g23 : σ 23 = some (0, false)
 c28 : C28 (D 28) F
 g28 : σ 28 = some (0, false)
abbrev R11 (r : (Int × Bool)) : (Nat → V) → Prop := RR Try.prog [.tmp 2, .tmp 3] 0 false (.tup [Enc.enc (r.1 : Int), Enc.enc (r.2 : Bool)])
section
variable {D : Den} {σ : Sig} {F : Nat} {r : (Int × Bool)}
def xI (F : Nat) (x_1 : GR) : Option (Int × Bool) :=
 (xP F x_1).bind fun r_2 =>
 bif (!r_2) then
  some (0, false)
 else
  (vp F x_1).bind fun r_3 =>
  (xb F r_3).bind fun r_4 =>
  some (r_4, true)
theorem t11 (H : H11 D σ F) (x_1 : GR) (s : Nat → V) (hs : zl [(0, gV x_1)] s) (h : xI F x_1 = some r) : Run D σ (R11 r) (.run A11 []) s := by
 unfold xI at h
 have h0 := hs
 refine .seq (zt (zR ?_))
 refine ez [(0, _), (1, _)] ⟨za h0 rfl mIE, zb rfl⟩ ?_
 rintro s ⟨h0, h1⟩
 refine xB (gV x_1) (zy h0 rfl) h1 rfl (g0 (ji 0) fun h2 => g0 (jb false) fun h3 => gq (.nsq (.seq (.seq (rg (g1 1 (gV x_1) (rf (bG 1 x_1)) fun h4 => ?_))))))
 obtain ⟨r_2, E_r_2, h⟩ := bind_some h
 refine zB (m := 0) (al := false) (r := Enc.enc (r_2 : Bool)) [Enc.enc (x_1 : GR)] (zd (v := gV x_1) h4 rfl (Enc.erase_enc (x_1 : GR)) zw) (H.c21 _ _ E_r_2) H.g21 rfl rfl rfl rfl (g1 5 (jb (!r_2)) (rf (jb r_2)) fun h6 => gq (.nsq (zi (t := (!r_2)) h6 h (fun h => ?_) (fun h => ?_))))
 · refine .seq (rg (g0 (ji 0) fun h2 => g0 (jb false) fun h3 => gq (.nsq (.ret ?_))))
   have hr := Option.some.inj h
   subst hr
   exact rrB (zf h2) (zf h3) rfl
 refine .skip (.nsq (.seq (rg (g1 1 (gV x_1) (rf (bG 1 x_1)) fun h7 => ?_))))
 obtain ⟨r_3, E_r_3, h⟩ := bind_some h
 refine zB (m := 0) (al := false) (r := Enc.enc (r_3 : (S1 LI))) [Enc.enc (x_1 : GR)] (zd (v := gV x_1) h7 rfl (Enc.erase_enc (x_1 : GR)) zw) (H.c23 _ _ E_r_3) H.g23 rfl rfl rfl rfl ?_
 obtain ⟨r_4, E_r_4, h⟩ := bind_some h
 refine zB (m := 0) (al := false) (r := Enc.enc (r_4 : Int)) [Enc.enc (r_3 : (S1 LI))] (zd (v := .agg [eL r_3.a]) rfl rfl (Enc.erase_enc (r_3 : (S1 LI))) zw) (H.c28 _ _ E_r_4) H.g28 rfl rfl rfl rfl (gm (rf (ji r_4)) fun h2 => g0 (jb true) fun h3 => gq (.nsq (.ret ?_)))
 have hr := Option.some.inj h
 subst hr
 exact rrB (zf h2) (zf h3) rfl
end
def e11 (F : Nat) : Ent := ent 11 (fun (x : (GR × Unit)) => xI F x.1) (fun (r : (Int × Bool)) => (.tup [Enc.enc (r.1 : Int), Enc.enc (r.2 : Bool)])) 0 false []
abbrev C11 (D : List V → Option V) (F : Nat) : Prop := ∀ (x0 : GR) r, xI F x0 = some r → D [Enc.enc x0] = some (.tup [Enc.enc (r.1 : Int), Enc.enc (r.2 : Bool)])
theorem p11 {F : Nat} : C11 (e11 F).den F := fun x0 _ h => zJ (x0, ()) h
theorem o11 {D : Den} {σ : Sig} {F : Nat} (hF : zu Try.prog D σ) (H : H11 D σ F) : (e11 F).Ok Try.prog := by
 refine yd (f := 11) (show unk 11 = 11 from rfl) (fun args r h => ?_) ⟨Try.f11, Try.func11, rfl, rfl⟩
 obtain ⟨⟨x0, _⟩, y, rfl, hy, rfl⟩ := zH h
 exact zk hF (by kernel_rfl) Try.func11 rfl c11 (show 1 ≤ Try.f11.ntmps by decide) (t11 H x0 _ rfl hy)
def zpY : AC := (.cond (.t 10) .skip (.exit 0))
def zoE : AC := (.cond (.t 17) (.reg [.clr [20, 21]] [jm 18 5, jm 19 6, jx 20 (.lit i0 1 [(0, 0, .t 19)]), jx 21 (.app .s (.t 18) (.t 20)), jm 5 21] [.home 21 5]) .skip)
def zif : AC := (.reg [] [jm 11 6, jv 12 (.bin .add (.t 11) (jn 1)), jm 6 12] [])
def zos : AC := (.seq (.block 1 (.seq (.reg [] [jm 13 1, jm 14 6, jv 15 (.bin .shr (.t 13) (.t 14)), jv 16 (.bin .and (.t 15) (jn 1)), jv 17 (.bin .eql (.t 16) (jn 1))] []) zoE)) zif)
def LT : AC := (.seq (.seq (.reg [] [jm 8 6, jm 9 0, jv 10 (.bin .lss (.t 8) (.t 9))] []) zpY) zos)
def zbK : AC := (.seq (.reg [] [jm 22 5, jm 4 22] [.home 5 4]) .ret)
def zkX : AC := (.block 0 (.loop LT))
def znt : AC := (.seq (.seq (.reg [] [jv 6 (.mov (jn 0))] []) zkX) zbK)
def zpo : AC := (.seq (.reg [.clr [7]] [jx 7 (.lit i0 0 []), jm 5 7] [.home 7 5]) znt)
def A38 : AC := (.seq (.reg [] [jv 4 (.mov (.k (.sl .nl .s 0 [])))] []) zpo)
def zqc : List An := [⟨1, [.clr [7]], [], [], [.home 7 5]⟩, ⟨6, [.clr [20, 21]], [], [], [.home 21 5]⟩, ⟨7, [], [], [], [.home 5 4]⟩]
theorem c38 : cC Try.prog Try.f38.ntmps zqc (Try.f38.body.getD .skip) = some A38 := by kernel_rfl
structure H38 (D : Den) (σ : Sig) (F : Nat) : Prop where
 mk ::
abbrev R38 (r : LI) : (Nat → V) → Prop := RR Try.prog [.tmp 4] 0 false (eL r)
section
variable {D : Den} {σ : Sig} {F : Nat} {r : LI}
def ZJ (F : Nat) (x_1 : Int) (x_2 : Int) (x_8 : Int) (c1 : LI → Int → Option LI) (x_15 : LI) : Option LI :=
 c1 x_15 (w64 (x_8 + 1))
theorem zat (H : H38 D σ F) (x_1 : Int) (x_2 : Int) (x_8 : Int) (c1 : LI → Int → Option LI) (Hc1 : ∀ (x_7 : LI) (x_8 : Int) (s : Nat → V), zl [(0, ji x_1), (1, ji x_2), (4, nI), (5, oI 5 [] (.of x_7)), (6, ji x_8)] s → c1 x_7 x_8 = some r → Run D σ (R38 r) (.run LT [.lp LT, .bk 0, .sq zbK]) s) (x_15 : LI) (s : Nat → V) (hs : zl [(0, ji x_1), (1, ji x_2), (4, nI), (5, oI 5 [] (.of x_15)), (6, ji x_8)] s) (h : ZJ F x_1 x_2 x_8 c1 x_15 = some r) : Run D σ (R38 r) (.nrm [.bk 1, .sq zif, .lp LT, .bk 0, .sq zbK]) s := by
 unfold ZJ at h
 obtain ⟨h0, h1, h4, h5, h6⟩ := hs
 refine .nbk (.nsq (rg (gm h6 fun h11 => g1 11 (ji (w64 (x_8 + 1))) h11 fun h12 => gm h12 fun h6 => gq (.nlp ?_))))
 exact Hc1 x_15 (w64 (x_8 + 1)) _ ⟨h0, h1, h4, h5, h6⟩ h
def wa (F : Nat) (x_1 : Int) (x_2 : Int)  : Nat → LI → Int → Option LI
 | 0, _, _ => none
 | k + 1, x_7, x_8 =>
   bif decide (x_8 < x_1) then
    (Z6 .i64 x_2 x_8).bind fun q_13 =>
    bif ((z6 .i64 q_13 1) == 1) then
     (wM x_7 [x_8]).bind fun ap_16 =>
     ZJ F x_1 x_2 x_8 (wa F x_1 x_2 k) ap_16
    else
     ZJ F x_1 x_2 x_8 (wa F x_1 x_2 k) x_7
   else
    some x_7
theorem zgo (H : H38 D σ F) (x_1 : Int) (x_2 : Int)  : ∀ (k : Nat) (x_7 : LI) (x_8 : Int) (s : Nat → V), zl [(0, ji x_1), (1, ji x_2), (4, nI), (5, oI 5 [] (.of x_7)), (6, ji x_8)] s → wa F x_1 x_2 k x_7 x_8 = some r → Run D σ (R38 r) (.run LT [.lp LT, .bk 0, .sq zbK]) s := by
 intro k
 induction k with
 | zero => intro x_7 x_8 s _ h; exact nm h
 | succ k ih =>
   intro x_7 x_8 s hs h
   rw [wa] at h
   obtain ⟨h0, h1, h4, h5, h6⟩ := hs
   refine .seq (.seq (rg (gm h6 fun h8 => gm h0 fun h9 => g2 8 9 (jb (decide (x_8 < x_1))) h8 h9 fun h10 => gq (.nsq (zi (t := decide (x_8 < x_1)) h10 h (fun h => ?_) (fun h => ?_))))))
   · refine .skip (.nsq (.seq (.block (.seq (rg (gm h1 fun h13 => gm h6 fun h14 => ?_))))))
     obtain ⟨q_13, E_q_13, h⟩ := bind_some h
     refine gv (ji q_13) (ua h13 h14 E_q_13) fun h15 => g1 15 (ji (z6 .i64 q_13 1)) h15 fun h16 => g1 16 (jb ((z6 .i64 q_13 1) == 1)) h16 fun h17 => gq (.nsq (zi (t := ((z6 .i64 q_13 1) == 1)) h17 h (fun h => ?_) (fun h => ?_)))
     · refine zt (zR ?_)
       refine ez [(0, _), (1, _), (4, _), (5, _), (6, _), (20, _), (21, _)] ⟨za h0 rfl mi, za h1 rfl mi, za h4 rfl rfl, za h5 rfl (zm (r := 5) (p := []) rfl rfl), za h6 rfl mi, zb rfl, zb rfl⟩ ?_
       rintro s ⟨h0, h1, h4, h5, h6, h20, h21⟩
       refine gm h5 fun h18 => gm h6 fun h19 => xf [(19, ji x_8)] [Enc.enc (x_8 : Int)] h19 rfl rfl h20 ?_
       obtain ⟨ap_16, E_ap_16, h⟩ := bind_some h
       refine XZ (q := 5) (p := []) (o := .of (x_7 : LI)) (ys := ([x_8] : LI)) (t2 := .at 20 []) (lo2 := 0) h18 rfl rfl h21 (ZV (o := .of (x_7 : LI)) E_ap_16 trivial) (fun s_19 ha_19 => gm (rf (oI 21 [] (.of ap_16))) fun h5 => yE (yq (r := 21) (x := 5) (v := _) h5 rfl (fun s_20 hg_20 => ?_)))
       refine ez [(0, ji x_1), (1, ji x_2), (4, nI), (5, oI 5 [] (.of ap_16)), (6, ji x_8)] ⟨hg_20 0 _ _ (show s_19 0 = (ji x_1) from zU ha_19 h0 mi) mi, hg_20 1 _ _ (show s_19 1 = (ji x_2) from zU ha_19 h1 mi) mi, hg_20 4 _ nI (show s_19 4 = nI from zU ha_19 h4 rfl) rfl, hg_20 5 _ _ h5 (zm (r := 21) (p := []) rfl rfl), hg_20 6 _ _ (show s_19 6 = (ji x_8) from zU ha_19 h6 mi) mi⟩ ?_
       rintro s ⟨h0, h1, h4, h5, h6⟩
       exact zat H x_1 x_2 x_8 (wa F x_1 x_2 k) ih ap_16 _ ⟨h0, h1, h4, h5, h6⟩ h
     refine .skip ?_
     exact zat H x_1 x_2 x_8 (wa F x_1 x_2 k) ih x_7 _ ⟨h0, h1, h4, h5, h6⟩ h
   refine .exit (.esq (.elp (.ebk (.nsq (.seq (rg (gm h5 fun h22 => gm h22 fun h4 => yE (yq (r := 5) (x := 4) (v := _) h4 rfl (fun s_21 hg_21 => ?_)))))))))
   refine ez [(4, oI 4 [] (.of x_7))] (hg_21 4 _ _ h4 (zm (r := 5) (p := []) rfl rfl)) ?_
   rintro s h4
   refine .nsq (.ret ?_)
   have hr := Option.some.inj h
   subst hr
   exact rrA (zf h4) (ug (wz (o := .of x_7)) (wn rfl))
def ZM (F : Nat) (x_1 : Int) (x_2 : Int) : Option LI :=
 wa F x_1 x_2 F [] 0
theorem t38 (H : H38 D σ F) (x_1 : Int) (x_2 : Int) (s : Nat → V) (hs : zl [(0, ji x_1), (1, ji x_2)] s) (h : ZM F x_1 x_2 = some r) : Run D σ (R38 r) (.run A38 []) s := by
 unfold ZM at h
 obtain ⟨h0, h1⟩ := hs
 refine .seq (rg (g0 nI fun h4 => gq (.nsq (.seq (zt (zR ?_))))))
 refine ez [(0, _), (1, _), (4, _), (7, _)] ⟨za h0 rfl mi, za h1 rfl mi, za h4 rfl rfl, zb rfl⟩ ?_
 rintro s ⟨h0, h1, h4, h7⟩
 refine xf [] [] trivial rfl rfl h7 (gm (rf (oI 7 [] (.of []))) fun h5 => yE (yq (r := 7) (x := 5) (v := _) h5 rfl (fun s_2 hg_2 => ?_)))
 refine ez [(0, ji x_1), (1, ji x_2), (4, nI), (5, oI 5 [] (.of []))] ⟨hg_2 0 _ _ h0 mi, hg_2 1 _ _ h1 mi, hg_2 4 _ _ h4 rfl, hg_2 5 _ _ h5 (zm (r := 7) (p := []) rfl rfl)⟩ ?_
 rintro s ⟨h0, h1, h4, h5⟩
 refine .nsq (.seq (.seq (rg (g0 (ji 0) fun h6 => gq (.nsq (.block (.loop ?_)))))))
 exact zgo H x_1 x_2 F [] 0 _ ⟨h0, h1, h4, h5, h6⟩ h
end
def e38 (F : Nat) : Ent := ent 38 (fun (x : (Int × Int × Unit)) => ZM F x.1 x.2.1) (fun (r : LI) => (eL r)) 0 false []
abbrev C38 (D : List V → Option V) (F : Nat) : Prop := ∀ (x0 : Int) (x1 : Int) r, ZM F x0 x1 = some r → D [Enc.enc x0, Enc.enc x1] = some (eL r)
theorem p38 {F : Nat} : C38 (e38 F).den F := fun x0 x1 _ h => zJ (x0, x1, ()) h
theorem o38 {D : Den} {σ : Sig} {F : Nat} (hF : zu Try.prog D σ) (H : H38 D σ F) : (e38 F).Ok Try.prog := by
 refine yd (f := 38) (show unk 38 = 38 from rfl) (fun args r h => ?_) ⟨Try.f38, Try.func38, rfl, rfl⟩
 obtain ⟨⟨x0, x1, _⟩, y, rfl, hy, rfl⟩ := zH h
 exact zk hF (by kernel_rfl) Try.func38 rfl c38 (show 2 ≤ Try.f38.ntmps by decide) (t38 H x0 x1 _ ⟨rfl, rfl⟩ hy)
def zk8 : AC := (.cond (.t 12) .skip (.exit 0))
def znQ : AC := (.cond (.t 18) .skip (.exit 2))
def zip : AC := (.cond (.t 40) (.reg [] [jm 41 3, jm 42 4, jm 43 6, jv 44 (.bin .shl (jn 1) (.t 43)), jv 45 (.bin .sub (.t 42) (.t 44)), jv 46 (.idx (.t 41) (.t 45) 1), jv 47 (.load .s (.t 46)), jm 5 47] []) .skip)
def zbn : AC := (.reg [] [jm 19 6, jv 20 (.bin .add (.t 19) (jn 1)), jm 6 20] [])
def zoS : AC := (.seq (.block 3 (.seq (.reg [] [jm 21 4, jm 22 6, jv 23 (.bin .shr (.t 21) (.t 22)), jv 24 (.bin .and (.t 23) (jn 1)), jv 25 (.bin .eql (.t 24) (jn 1)), jm 26 25, jg 27 26 true (.mov (.t 5)), jg 28 26 true (.bin .lss (.t 27) (jn 0)), jg 29 26 true (.mov (.t 28)), jg 30 29 false (.mov (.t 3)), jg 31 29 false (.mov (.t 4)), jg 32 29 false (.mov (.t 6)), jg 33 29 false (.bin .shl (jn 1) (.t 32)), jg 34 29 false (.bin .sub (.t 31) (.t 33)), jg 35 29 false (.idx (.t 30) (.t 34) 1), jg 36 29 false (.load .s (.t 35)), jg 37 29 false (.mov (.t 5)), jg 38 29 false (.bin .lss (.t 36) (.t 37)), jg 39 26 true (.pick (.t 29) kt (.t 38)), jv 40 (.pick (.t 26) (.t 39) kf)] []) zip)) zbn)
def UH : AC := (.seq (.seq (.reg [] [jm 15 6, jv 16 (.fld (.t 1) 0 0), jv 17 (.load .s (.t 16)), jv 18 (.bin .lss (.t 15) (.t 17))] []) znQ) zoS)
def zpE : AC := (.block 2 (.loop UH))
def U0 : AC := (.reg [.clr [58, 59]] [jm 48 3, jm 49 5, jv 50 (.load (.ag [.s, .p]) (.t 1)), jv 51 (.fld (.t 1) 0 0), jv 52 (.load .s (.t 51)), jm 53 4, jx 54 (.call (jf 38) [.t 52, .t 53]), jx 55 (.call (jf 27) [.t 50, .t 54]), jv 56 (.len (.t 55)), jx 57 (.call (jf 39) [.t 49, .t 56]), jx 58 (.lit i0 1 [(0, 0, .t 57)]), jx 59 (.app .s (.t 48) (.t 58)), jm 3 59] [.home 59 3])
def zkU : AC := (.seq (.seq (.reg [] [jv 6 (.mov (jn 0))] []) zpE) U0)
def U4 : AC := (.reg [] [jm 13 4, jv 14 (.bin .add (.t 13) (jn 1)), jm 4 14] [])
def zkW : AC := (.seq (.block 1 (.seq (.reg [] [jv 5 (.mov (jn (-1)))] []) zkU)) U4)
def YS : AC := (.seq (.seq (.reg [] [jm 8 4, jv 9 (.fld (.t 1) 0 0), jv 10 (.load .s (.t 9)), jv 11 (.bin .shl (jn 1) (.t 10)), jv 12 (.bin .lss (.t 8) (.t 11))] []) zk8) zkW)
def Y2 : AC := (.seq (.reg [] [jm 60 3, jm 2 60] [.home 3 2]) .ret)
def zj7 : AC := (.block 0 (.loop YS))
def zku : AC := (.seq (.seq (.reg [] [jv 4 (.mov (jn 1))] []) zj7) Y2)
def zjD : AC := (.seq (.reg [.clr [7]] [jx 7 (.lit i0 1 [(0, 0, jn 0)]), jm 3 7] [.home 7 3]) zku)
def A55 : AC := (.seq (.reg [.clr [1]] [jx 1 (.box (.t 0)), jv 2 (.mov (.k (.sl .nl .s 0 [])))] []) zjD)
def zrx : List An := [⟨0, [.clr [1]], [], [], []⟩, ⟨1, [.clr [7]], [], [], [.home 7 3]⟩, ⟨11, [.clr [58, 59]], [], [], [.home 59 3]⟩, ⟨12, [], [], [], [.home 3 2]⟩]
theorem c55 : cC Try.prog Try.f55.ntmps zrx (Try.f55.body.getD .skip) = some A55 := by kernel_rfl
structure H55 (D : Den) (σ : Sig) (F : Nat) : Prop where
 c38 : C38 (D 38) F
 g38 : σ 38 = some (0, false)
 c27 : C27 (D 27) F
 g27 : σ 27 = some (0, true)
 c39 : C39 (D 39) F
 g39 : σ 39 = some (0, false)
abbrev R55 (r : LI) : (Nat → V) → Prop := RR Try.prog [.tmp 2] 0 false (eL r)
section
variable {D : Den} {σ : Sig} {F : Nat} {r : LI}
def ui (F : Nat) (x_1 : GR) (x_45 : LI) (x_46 : Int) (x_104 : Int) (c1 : LI → Int → Option LI) (c4 : Int → Int → Option LI) (x_123 : Int) : Option LI :=
 c4 x_123 (w64 (x_104 + 1))
theorem QF (H : H55 D σ F) (x_1 : GR) (x_45 : LI) (x_46 : Int) (x_104 : Int) (c1 : LI → Int → Option LI) (Hc1 : ∀ (x_45 : LI) (x_46 : Int) (s : Nat → V), zl [(1, bG 1 x_1), (2, nI), (3, oI 3 [] (.of x_45)), (4, ji x_46)] s → c1 x_45 x_46 = some r → Run D σ (R55 r) (.run YS [.lp YS, .bk 0, .sq Y2]) s) (c4 : Int → Int → Option LI) (Hc4 : ∀ (x_103 : Int) (x_104 : Int) (s : Nat → V), zl [(1, bG 1 x_1), (2, nI), (3, oI 3 [] (.of x_45)), (4, ji x_46), (5, ji x_103), (6, ji x_104)] s → c4 x_103 x_104 = some r → Run D σ (R55 r) (.run UH [.lp UH, .bk 2, .sq U0, .bk 1, .sq U4, .lp YS, .bk 0, .sq Y2]) s) (x_123 : Int) (s : Nat → V) (hs : zl [(1, bG 1 x_1), (2, nI), (3, oI 3 [] (.of x_45)), (4, ji x_46), (5, ji x_123), (6, ji x_104)] s) (h : ui F x_1 x_45 x_46 x_104 c1 c4 x_123 = some r) : Run D σ (R55 r) (.nrm [.bk 3, .sq zbn, .lp UH, .bk 2, .sq U0, .bk 1, .sq U4, .lp YS, .bk 0, .sq Y2]) s := by
 unfold ui at h
 obtain ⟨h1, h2, h3, h4, h5, h6⟩ := hs
 refine .nbk (.nsq (rg (gm h6 fun h19 => g1 19 (ji (w64 (x_104 + 1))) h19 fun h20 => gm h20 fun h6 => gq (.nlp ?_))))
 exact Hc4 x_123 (w64 (x_104 + 1)) _ ⟨h1, h2, h3, h4, h5, h6⟩ h
def vm (F : Nat) (x_1 : GR) (x_45 : LI) (x_46 : Int) (x_103 : Int) (x_104 : Int) (c1 : LI → Int → Option LI) (c4 : Int → Int → Option LI) (x_120 : Bool) : Option LI :=
 bif x_120 then
  (ZW .i64 1 x_104).bind fun q_124 =>
  (idx x_45 (w64 (x_46 - q_124))).bind fun e_125 =>
  ui F x_1 x_45 x_46 x_104 c1 c4 e_125
 else
  ui F x_1 x_45 x_46 x_104 c1 c4 x_103
theorem Kw (H : H55 D σ F) (x_1 : GR) (x_45 : LI) (x_46 : Int) (x_103 : Int) (x_104 : Int) (c1 : LI → Int → Option LI) (Hc1 : ∀ (x_45 : LI) (x_46 : Int) (s : Nat → V), zl [(1, bG 1 x_1), (2, nI), (3, oI 3 [] (.of x_45)), (4, ji x_46)] s → c1 x_45 x_46 = some r → Run D σ (R55 r) (.run YS [.lp YS, .bk 0, .sq Y2]) s) (c4 : Int → Int → Option LI) (Hc4 : ∀ (x_103 : Int) (x_104 : Int) (s : Nat → V), zl [(1, bG 1 x_1), (2, nI), (3, oI 3 [] (.of x_45)), (4, ji x_46), (5, ji x_103), (6, ji x_104)] s → c4 x_103 x_104 = some r → Run D σ (R55 r) (.run UH [.lp UH, .bk 2, .sq U0, .bk 1, .sq U4, .lp YS, .bk 0, .sq Y2]) s) (x_120 : Bool) (s : Nat → V) (hs : zl [(1, bG 1 x_1), (2, nI), (3, oI 3 [] (.of x_45)), (4, ji x_46), (5, ji x_103), (6, ji x_104), (40, jb x_120)] s) (h : vm F x_1 x_45 x_46 x_103 x_104 c1 c4 x_120 = some r) : Run D σ (R55 r) (.nrm [.sq zip, .bk 3, .sq zbn, .lp UH, .bk 2, .sq U0, .bk 1, .sq U4, .lp YS, .bk 0, .sq Y2]) s := by
 unfold vm at h
 obtain ⟨h1, h2, h3, h4, h5, h6, h40⟩ := hs
 refine .nsq (zi (t := x_120) h40 h (fun h => ?_) (fun h => ?_))
 · refine rg (gm h3 fun h41 => gm h4 fun h42 => gm h6 fun h43 => ?_)
   obtain ⟨q_124, E_q_124, h⟩ := bind_some h
   refine gv (ji q_124) (v9 rfl h43 E_q_124) fun h44 => g2 42 44 (ji (w64 (x_46 - q_124))) h42 h44 fun h45 => ?_
   obtain ⟨e_125, E_e_125, h⟩ := bind_some h
   refine gv (.ref (.at 3 []) ((w64 (x_46 - q_124)).toNat) [] (ji e_125)) (vo (o := .of x_45) h41 h45 E_e_125 rfl) fun h46 => g1 46 (ji e_125) h46 fun h47 => gm h47 fun h5 => gq ?_
   exact QF H x_1 x_45 x_46 x_104 c1 Hc1 c4 Hc4 e_125 _ ⟨h1, h2, h3, h4, h5, h6⟩ h
 refine .skip ?_
 exact QF H x_1 x_45 x_46 x_104 c1 Hc1 c4 Hc4 x_103 _ ⟨h1, h2, h3, h4, h5, h6⟩ h
def yR (F : Nat) (x_1 : GR) (x_45 : LI) (x_46 : Int) (c1 : LI → Int → Option LI) : Nat → Int → Int → Option LI
 | 0, _, _ => none
 | k + 1, x_103, x_104 =>
   bif decide (x_104 < x_1.1) then
    (Z6 .i64 x_46 x_104).bind fun q_126 =>
    bif ((z6 .i64 q_126 1) == 1) then
     bif decide (x_103 < 0) then
      vm F x_1 x_45 x_46 x_103 x_104 c1 (yR F x_1 x_45 x_46 c1 k) true
     else
      (ZW .i64 1 x_104).bind fun q_127 =>
      (idx x_45 (w64 (x_46 - q_127))).bind fun e_128 =>
      vm F x_1 x_45 x_46 x_103 x_104 c1 (yR F x_1 x_45 x_46 c1 k) (decide (e_128 < x_103))
    else
     vm F x_1 x_45 x_46 x_103 x_104 c1 (yR F x_1 x_45 x_46 c1 k) false
   else
    (ZM F x_1.1 x_46).bind fun r_129 =>
    (xx F x_1 r_129).bind fun r_130 =>
    (uc F x_103 (r_130.length : Int)).bind fun r_131 =>
    (wM x_45 [r_131]).bind fun ap_132 =>
    c1 ap_132 (w64 (x_46 + 1))
theorem zfa (H : H55 D σ F) (x_1 : GR) (x_45 : LI) (x_46 : Int) (c1 : LI → Int → Option LI) (Hc1 : ∀ (x_45 : LI) (x_46 : Int) (s : Nat → V), zl [(1, bG 1 x_1), (2, nI), (3, oI 3 [] (.of x_45)), (4, ji x_46)] s → c1 x_45 x_46 = some r → Run D σ (R55 r) (.run YS [.lp YS, .bk 0, .sq Y2]) s) : ∀ (k : Nat) (x_103 : Int) (x_104 : Int) (s : Nat → V), zl [(1, bG 1 x_1), (2, nI), (3, oI 3 [] (.of x_45)), (4, ji x_46), (5, ji x_103), (6, ji x_104)] s → yR F x_1 x_45 x_46 c1 k x_103 x_104 = some r → Run D σ (R55 r) (.run UH [.lp UH, .bk 2, .sq U0, .bk 1, .sq U4, .lp YS, .bk 0, .sq Y2]) s := by
 intro k
 induction k with
 | zero => intro x_103 x_104 s _ h; exact nm h
 | succ k ih =>
   intro x_103 x_104 s hs h
   rw [yR] at h
   obtain ⟨h1, h2, h3, h4, h5, h6⟩ := hs
   refine .seq (.seq (rg (gm h6 fun h15 => g1 1 (.ref (.bx 1) 0 [0] (ji x_1.1)) h1 fun h16 => g1 16 (ji x_1.1) h16 fun h17 => g2 15 17 (jb (decide (x_104 < x_1.1))) h15 h17 fun h18 => gq (.nsq (zi (t := decide (x_104 < x_1.1)) h18 h (fun h => ?_) (fun h => ?_))))))
   · refine .skip (.nsq (.seq (.block (.seq (rg (gm h4 fun h21 => gm h6 fun h22 => ?_))))))
     obtain ⟨q_126, E_q_126, h⟩ := bind_some h
     refine gv (ji q_126) (ua h21 h22 E_q_126) fun h23 => g1 23 (ji (z6 .i64 q_126 1)) h23 fun h24 => g1 24 (jb ((z6 .i64 q_126 1) == 1)) h24 fun h25 => gm h25 fun h26 => zP (c := ((z6 .i64 q_126 1) == 1)) h (fun hg6 h => ?_) (fun hg6 h => ?_)
     · refine zg (ct h26 hg6) (gm h5 fun h27 => zg (ct h26 hg6) (g1 27 (jb (decide (x_103 < 0))) h27 fun h28 => zg (ct h26 hg6) (gm h28 fun h29 => zP (c := decide (x_103 < 0)) h (fun hg9 h => ?_) (fun hg9 h => ?_))))
       · iterate 9 refine ym (ct h29 hg9) ?_
         refine zg (ct h26 hg6) (g2 29 38 (jb true) (ct h29 hg9) (rf (.tup [])) fun h39 => g2 26 39 (jb true) (ct h26 hg6) h39 fun h40 => gz [(1, _), (2, _), (3, _), (4, _), (5, _), (6, _), (40, _)] ⟨h1, h2, h3, h4, h5, h6, h40⟩ ?_)
         rintro s ⟨h1, h2, h3, h4, h5, h6, h40⟩
         exact Kw H x_1 x_45 x_46 x_103 x_104 c1 Hc1 (yR F x_1 x_45 x_46 c1 k) ih true _ ⟨h1, h2, h3, h4, h5, h6, h40⟩ h
       refine zg (ct h29 hg9) (gm h3 fun h30 => zg (ct h29 hg9) (gm h4 fun h31 => zg (ct h29 hg9) (gm h6 fun h32 => ?_)))
       obtain ⟨q_127, E_q_127, h⟩ := bind_some h
       refine zg (ct h29 hg9) (gv (ji q_127) (v9 rfl h32 E_q_127) fun h33 => zg (ct h29 hg9) (g2 31 33 (ji (w64 (x_46 - q_127))) h31 h33 fun h34 => ?_))
       obtain ⟨e_128, E_e_128, h⟩ := bind_some h
       refine zg (ct h29 hg9) (gv (.ref (.at 3 []) ((w64 (x_46 - q_127)).toNat) [] (ji e_128)) (vo (o := .of x_45) h30 h34 E_e_128 rfl) fun h35 => zg (ct h29 hg9) (g1 35 (ji e_128) h35 fun h36 => zg (ct h29 hg9) (gm h5 fun h37 => zg (ct h29 hg9) (g2 36 37 (jb (decide (e_128 < x_103))) h36 h37 fun h38 => zg (ct h26 hg6) (g2 29 38 (jb (decide (e_128 < x_103))) (ct h29 hg9) h38 fun h39 => g2 26 39 (jb (decide (e_128 < x_103))) (ct h26 hg6) h39 fun h40 => gz [(1, _), (2, _), (3, _), (4, _), (5, _), (6, _), (40, _)] ⟨h1, h2, h3, h4, h5, h6, h40⟩ ?_)))))
       rintro s ⟨h1, h2, h3, h4, h5, h6, h40⟩
       exact Kw H x_1 x_45 x_46 x_103 x_104 c1 Hc1 (yR F x_1 x_45 x_46 c1 k) ih (decide (e_128 < x_103)) _ ⟨h1, h2, h3, h4, h5, h6, h40⟩ h
     iterate 3 refine ym (ct h26 hg6) ?_
     iterate 9 refine Z0 rfl ?_
     refine ym (ct h26 hg6) (g2 26 39 (jb false) (ct h26 hg6) (rf (.tup [])) fun h40 => gz [(1, _), (2, _), (3, _), (4, _), (5, _), (6, _), (40, _)] ⟨h1, h2, h3, h4, h5, h6, h40⟩ ?_)
     rintro s ⟨h1, h2, h3, h4, h5, h6, h40⟩
     exact Kw H x_1 x_45 x_46 x_103 x_104 c1 Hc1 (yR F x_1 x_45 x_46 c1 k) ih false _ ⟨h1, h2, h3, h4, h5, h6, h40⟩ h
   refine .exit (.esq (.elp (.ebk (.nsq (zt (zR ?_))))))
   refine ez [(1, _), (2, _), (3, _), (4, _), (5, _), (58, _), (59, _)] ⟨za h1 rfl (zh rfl mIE), za h2 rfl rfl, za h3 rfl (zm (r := 3) (p := []) rfl rfl), za h4 rfl mi, za h5 rfl mi, zb rfl, zb rfl⟩ ?_
   rintro s ⟨h1, h2, h3, h4, h5, h58, h59⟩
   refine gm h3 fun h48 => gm h5 fun h49 => g1 1 (gV x_1) h1 fun h50 => g1 1 (.ref (.bx 1) 0 [0] (ji x_1.1)) h1 fun h51 => g1 51 (ji x_1.1) h51 fun h52 => gm h4 fun h53 => ?_
   obtain ⟨r_129, E_r_129, h⟩ := bind_some h
   refine zB (m := 0) (al := false) (r := eL r_129) [Enc.enc (x_1.1 : Int), Enc.enc (x_46 : Int)] (zd (v := ji x_1.1) h52 rfl rfl (zd (v := ji x_46) h53 rfl rfl zw)) (H.c38 _ _ _ E_r_129) H.g38 rfl rfl rfl rfl ?_
   obtain ⟨r_130, E_r_130, h⟩ := bind_some h
   refine zB (m := 0) (al := true) (r := eL r_130) [Enc.enc (x_1 : GR), eL r_129] (zd (v := gV x_1) h50 rfl (Enc.erase_enc (x_1 : GR)) (zd (v := eL r_129) rfl rfl (Enc.erase_enc (r_129 : LI)) zw)) (H.c27 _ _ _ E_r_130) H.g27 (Zd (xk (v := gV x_1) h50 rfl rfl (xk (v := eL r_129) rfl rfl rfl uV))) rfl rfl rfl (gv (ji (r_130.length : Int)) (yo (xs := r_130) rfl) fun h56 => ?_)
   obtain ⟨r_131, E_r_131, h⟩ := bind_some h
   refine zB (m := 0) (al := false) (r := Enc.enc (r_131 : Int)) [Enc.enc (x_103 : Int), Enc.enc ((r_130.length : Int) : Int)] (zd (v := ji x_103) h49 rfl rfl (zd (v := ji (r_130.length : Int)) h56 rfl rfl zw)) (H.c39 _ _ _ E_r_131) H.g39 rfl rfl rfl rfl (xf [(57, ji r_131)] [Enc.enc (r_131 : Int)] rfl rfl rfl h58 ?_)
   obtain ⟨ap_132, E_ap_132, h⟩ := bind_some h
   refine XZ (q := 3) (p := []) (o := .of (x_45 : LI)) (ys := ([r_131] : LI)) (t2 := .at 58 []) (lo2 := 0) h48 rfl rfl h59 (ZV (o := .of (x_45 : LI)) E_ap_132 trivial) (fun s_11 ha_11 => gm (rf (oI 59 [] (.of ap_132))) fun h3 => yE (yq (r := 59) (x := 3) (v := _) h3 rfl (fun s_12 hg_12 => ?_)))
   refine ez [(1, bG 1 x_1), (2, nI), (3, oI 3 [] (.of ap_132)), (4, ji x_46)] ⟨hg_12 1 _ _ (show s_11 1 = (bG 1 x_1) from zU ha_11 h1 (zh rfl mIE)) (zh rfl mIE), hg_12 2 _ nI (show s_11 2 = nI from zU ha_11 h2 rfl) rfl, hg_12 3 _ _ h3 (zm (r := 59) (p := []) rfl rfl), hg_12 4 _ _ (show s_11 4 = (ji x_46) from zU ha_11 h4 mi) mi⟩ ?_
   rintro s ⟨h1, h2, h3, h4⟩
   refine .nbk (.nsq (rg (gm h4 fun h13 => g1 13 (ji (w64 (x_46 + 1))) h13 fun h14 => gm h14 fun h4 => gq (.nlp ?_))))
   exact Hc1 ap_132 (w64 (x_46 + 1)) _ ⟨h1, h2, h3, h4⟩ h
def xm (F : Nat) (x_1 : GR)  : Nat → LI → Int → Option LI
 | 0, _, _ => none
 | k + 1, x_45, x_46 =>
   (ZW .i64 1 x_1.1).bind fun q_90 =>
   bif decide (x_46 < q_90) then
    yR F x_1 x_45 x_46 (xm F x_1 k) F (-1) 0
   else
    some x_45
theorem zeV (H : H55 D σ F) (x_1 : GR)  : ∀ (k : Nat) (x_45 : LI) (x_46 : Int) (s : Nat → V), zl [(1, bG 1 x_1), (2, nI), (3, oI 3 [] (.of x_45)), (4, ji x_46)] s → xm F x_1 k x_45 x_46 = some r → Run D σ (R55 r) (.run YS [.lp YS, .bk 0, .sq Y2]) s := by
 intro k
 induction k with
 | zero => intro x_45 x_46 s _ h; exact nm h
 | succ k ih =>
   intro x_45 x_46 s hs h
   rw [xm] at h
   obtain ⟨h1, h2, h3, h4⟩ := hs
   refine .seq (.seq (rg (gm h4 fun h8 => g1 1 (.ref (.bx 1) 0 [0] (ji x_1.1)) h1 fun h9 => g1 9 (ji x_1.1) h9 fun h10 => ?_)))
   obtain ⟨q_90, E_q_90, h⟩ := bind_some h
   refine gv (ji q_90) (v9 rfl h10 E_q_90) fun h11 => g2 8 11 (jb (decide (x_46 < q_90))) h8 h11 fun h12 => gq (.nsq (zi (t := decide (x_46 < q_90)) h12 h (fun h => ?_) (fun h => ?_)))
   · refine .skip (.nsq (.seq (.block (.seq (rg (g0 (ji (-1)) fun h5 => gq (.nsq (.seq (.seq (rg (g0 (ji 0) fun h6 => gq (.nsq (.block (.loop ?_))))))))))))))
     exact zfa H x_1 x_45 x_46 (xm F x_1 k) ih F (-1) 0 _ ⟨h1, h2, h3, h4, h5, h6⟩ h
   refine .exit (.esq (.elp (.ebk (.nsq (.seq (rg (gm h3 fun h60 => gm h60 fun h2 => yE (yq (r := 3) (x := 2) (v := _) h2 rfl (fun s_13 hg_13 => ?_)))))))))
   refine ez [(2, oI 2 [] (.of x_45))] (hg_13 2 _ _ h2 (zm (r := 3) (p := []) rfl rfl)) ?_
   rintro s h2
   refine .nsq (.ret ?_)
   have hr := Option.some.inj h
   subst hr
   exact rrA (zf h2) (ug (wz (o := .of x_45)) (wn rfl))
def uz (F : Nat) (x_1 : GR) : Option LI :=
 xm F x_1 F [0] 1
theorem t55 (H : H55 D σ F) (x_1 : GR) (s : Nat → V) (hs : zl [(0, gV x_1)] s) (h : uz F x_1 = some r) : Run D σ (R55 r) (.run A55 []) s := by
 unfold uz at h
 have h0 := hs
 refine .seq (zt (zR ?_))
 refine ez [(0, _), (1, _)] ⟨za h0 rfl mIE, zb rfl⟩ ?_
 rintro s ⟨h0, h1⟩
 refine xB (gV x_1) (zy h0 rfl) h1 rfl (g0 nI fun h2 => gq (.nsq (.seq (zt (zR ?_)))))
 refine ez [(1, _), (2, _), (7, _)] ⟨za rfl rfl (zh rfl mIE), za h2 rfl rfl, zb rfl⟩ ?_
 rintro s ⟨h1, h2, h7⟩
 refine xf [] [Enc.enc (0 : Int)] trivial rfl rfl h7 (gm (rf (oI 7 [] (.of [0]))) fun h3 => yE (yq (r := 7) (x := 3) (v := _) h3 rfl (fun s_3 hg_3 => ?_)))
 refine ez [(1, bG 1 x_1), (2, nI), (3, oI 3 [] (.of [0]))] ⟨hg_3 1 _ _ h1 (zh rfl mIE), hg_3 2 _ _ h2 rfl, hg_3 3 _ _ h3 (zm (r := 7) (p := []) rfl rfl)⟩ ?_
 rintro s ⟨h1, h2, h3⟩
 refine .nsq (.seq (.seq (rg (g0 (ji 1) fun h4 => gq (.nsq (.block (.loop ?_)))))))
 exact zeV H x_1 F [0] 1 _ ⟨h1, h2, h3, h4⟩ h
end
def e55 (F : Nat) : Ent := ent 55 (fun (x : (GR × Unit)) => uz F x.1) (fun (r : LI) => (eL r)) 0 false []
abbrev C55 (D : List V → Option V) (F : Nat) : Prop := ∀ (x0 : GR) r, uz F x0 = some r → D [Enc.enc x0] = some (eL r)
theorem p55 {F : Nat} : C55 (e55 F).den F := fun x0 _ h => zJ (x0, ()) h
theorem o55 {D : Den} {σ : Sig} {F : Nat} (hF : zu Try.prog D σ) (H : H55 D σ F) : (e55 F).Ok Try.prog := by
 refine yd (f := 55) (show unk 55 = 55 from rfl) (fun args r h => ?_) ⟨Try.f55, Try.func55, rfl, rfl⟩
 obtain ⟨⟨x0, _⟩, y, rfl, hy, rfl⟩ := zH h
 exact zk hF (by kernel_rfl) Try.func55 rfl c55 (show 1 ≤ Try.f55.ntmps by decide) (t55 H x0 _ rfl hy)
def zob : AC := (.seq (.reg [] [jv 3 (.load (.ag [.s, .p]) (.t 1)), jx 4 (.call (jf 55) [.t 3]), jv 5 (.fld (.t 1) 0 0), jv 6 (.load .s (.t 5)), jv 7 (.bin .shl (jn 1) (.t 6)), jv 8 (.bin .sub (.t 7) (jn 1)), jv 9 (.idx (.t 4) (.t 8) 1), jv 10 (.load .s (.t 9)), jm 2 10] []) .ret)
def A29 : AC := (.seq (.reg [.clr [1]] [jx 1 (.box (.t 0)), jv 2 (.mov (jn 0))] []) zob)
def zra : List An := [⟨0, [.clr [1]], [], [], []⟩]
theorem c29 : cC Try.prog Try.f29.ntmps zra (Try.f29.body.getD .skip) = some A29 := by kernel_rfl
structure H29 (D : Den) (σ : Sig) (F : Nat) : Prop where
 c55 : C55 (D 55) F
 g55 : σ 55 = some (0, false)
abbrev R29 (r : Int) : (Nat → V) → Prop := RR Try.prog [.tmp 2] 0 false (Enc.enc (r : Int))
section
variable {D : Den} {σ : Sig} {F : Nat} {r : Int}
def xl (F : Nat) (x_1 : GR) : Option Int :=
 (uz F x_1).bind fun r_2 =>
 (ZW .i64 1 x_1.1).bind fun q_3 =>
 (idx r_2 (w64 (q_3 - 1))).bind fun e_4 =>
 some e_4
theorem t29 (H : H29 D σ F) (x_1 : GR) (s : Nat → V) (hs : zl [(0, gV x_1)] s) (h : xl F x_1 = some r) : Run D σ (R29 r) (.run A29 []) s := by
 unfold xl at h
 have h0 := hs
 refine .seq (zt (zR ?_))
 refine ez [(0, _), (1, _)] ⟨za h0 rfl mIE, zb rfl⟩ ?_
 rintro s ⟨h0, h1⟩
 refine xB (gV x_1) (zy h0 rfl) h1 rfl (g0 (ji 0) fun h2 => gq (.nsq (.seq (rg (g1 1 (gV x_1) (rf (bG 1 x_1)) fun h3 => ?_)))))
 obtain ⟨r_2, E_r_2, h⟩ := bind_some h
 refine zB (m := 0) (al := false) (r := eL r_2) [Enc.enc (x_1 : GR)] (zd (v := gV x_1) h3 rfl (Enc.erase_enc (x_1 : GR)) zw) (H.c55 _ _ E_r_2) H.g55 rfl rfl rfl rfl (g1 1 (.ref (.bx 1) 0 [0] (ji x_1.1)) (rf (bG 1 x_1)) fun h5 => g1 5 (ji x_1.1) h5 fun h6 => ?_)
 obtain ⟨q_3, E_q_3, h⟩ := bind_some h
 refine gv (ji q_3) (v9 rfl h6 E_q_3) fun h7 => g1 7 (ji (w64 (q_3 - 1))) h7 fun h8 => ?_
 obtain ⟨e_4, E_e_4, h⟩ := bind_some h
 refine gv (.ref .sh 0 [] (ji e_4)) (yu (t := .sh) (lo := 0) (xs := r_2) rfl h8 E_e_4 rfl rfl) fun h9 => g1 9 (ji e_4) h9 fun h10 => gm h10 fun h2 => gq (.nsq (.ret ?_))
 have hr := Option.some.inj h
 subst hr
 exact rrA (zf h2) rfl
end
def e29 (F : Nat) : Ent := ent 29 (fun (x : (GR × Unit)) => xl F x.1) (fun (r : Int) => (Enc.enc (r : Int))) 0 false []
abbrev C29 (D : List V → Option V) (F : Nat) : Prop := ∀ (x0 : GR) r, xl F x0 = some r → D [Enc.enc x0] = some (Enc.enc (r : Int))
theorem p29 {F : Nat} : C29 (e29 F).den F := fun x0 _ h => zJ (x0, ()) h
theorem o29 {D : Den} {σ : Sig} {F : Nat} (hF : zu Try.prog D σ) (H : H29 D σ F) : (e29 F).Ok Try.prog := by
 refine yd (f := 29) (show unk 29 = 29 from rfl) (fun args r h => ?_) ⟨Try.f29, Try.func29, rfl, rfl⟩
 obtain ⟨⟨x0, _⟩, y, rfl, hy, rfl⟩ := zH h
 exact zk hF (by kernel_rfl) Try.func29 rfl c29 (show 1 ≤ Try.f29.ntmps by decide) (t29 H x0 _ rfl hy)
def zmC : AC := (.cond (.t 6) (.seq (.reg [] [jv 2 (.mov (jn 0)), jv 3 (.mov kf)] []) .ret) .skip)
def zn2 : AC := (.seq (.reg [] [jv 7 (.load (.ag [.s, .p]) (.t 1)), jx 8 (.call (jf 29) [.t 7]), jm 2 8, jv 3 (.mov kt)] []) .ret)
def zoF : AC := (.seq (.seq (.reg [] [jv 4 (.load (.ag [.s, .p]) (.t 1)), jx 5 (.call (jf 25) [.t 4]), jv 6 (.un .not (.t 5))] []) zmC) zn2)
def A12 : AC := (.seq (.reg [.clr [1]] [jx 1 (.box (.t 0)), jv 2 (.mov (jn 0)), jv 3 (.mov kf)] []) zoF)
def zrv : List An := [⟨0, [.clr [1]], [], [], []⟩]
theorem c12 : cC Try.prog Try.f12.ntmps zrv (Try.f12.body.getD .skip) = some A12 := by kernel_rfl
structure H12 (D : Den) (σ : Sig) (F : Nat) : Prop where
 c25 : C25 (D 25) F
 g25 : σ 25 = some (0, false)
 c29 : C29 (D 29) F
 g29 : σ 29 = some (0, false)
abbrev R12 (r : (Int × Bool)) : (Nat → V) → Prop := RR Try.prog [.tmp 2, .tmp 3] 0 false (.tup [Enc.enc (r.1 : Int), Enc.enc (r.2 : Bool)])
section
variable {D : Den} {σ : Sig} {F : Nat} {r : (Int × Bool)}
def xJ (F : Nat) (x_1 : GR) : Option (Int × Bool) :=
 (vf F x_1).bind fun r_2 =>
 bif (!r_2) then
  some (0, false)
 else
  (xl F x_1).bind fun r_3 =>
  some (r_3, true)
theorem t12 (H : H12 D σ F) (x_1 : GR) (s : Nat → V) (hs : zl [(0, gV x_1)] s) (h : xJ F x_1 = some r) : Run D σ (R12 r) (.run A12 []) s := by
 unfold xJ at h
 have h0 := hs
 refine .seq (zt (zR ?_))
 refine ez [(0, _), (1, _)] ⟨za h0 rfl mIE, zb rfl⟩ ?_
 rintro s ⟨h0, h1⟩
 refine xB (gV x_1) (zy h0 rfl) h1 rfl (g0 (ji 0) fun h2 => g0 (jb false) fun h3 => gq (.nsq (.seq (.seq (rg (g1 1 (gV x_1) (rf (bG 1 x_1)) fun h4 => ?_))))))
 obtain ⟨r_2, E_r_2, h⟩ := bind_some h
 refine zB (m := 0) (al := false) (r := Enc.enc (r_2 : Bool)) [Enc.enc (x_1 : GR)] (zd (v := gV x_1) h4 rfl (Enc.erase_enc (x_1 : GR)) zw) (H.c25 _ _ E_r_2) H.g25 rfl rfl rfl rfl (g1 5 (jb (!r_2)) (rf (jb r_2)) fun h6 => gq (.nsq (zi (t := (!r_2)) h6 h (fun h => ?_) (fun h => ?_))))
 · refine .seq (rg (g0 (ji 0) fun h2 => g0 (jb false) fun h3 => gq (.nsq (.ret ?_))))
   have hr := Option.some.inj h
   subst hr
   exact rrB (zf h2) (zf h3) rfl
 refine .skip (.nsq (.seq (rg (g1 1 (gV x_1) (rf (bG 1 x_1)) fun h7 => ?_))))
 obtain ⟨r_3, E_r_3, h⟩ := bind_some h
 refine zB (m := 0) (al := false) (r := Enc.enc (r_3 : Int)) [Enc.enc (x_1 : GR)] (zd (v := gV x_1) h7 rfl (Enc.erase_enc (x_1 : GR)) zw) (H.c29 _ _ E_r_3) H.g29 rfl rfl rfl rfl (gm (rf (ji r_3)) fun h2 => g0 (jb true) fun h3 => gq (.nsq (.ret ?_)))
 have hr := Option.some.inj h
 subst hr
 exact rrB (zf h2) (zf h3) rfl
end
def e12 (F : Nat) : Ent := ent 12 (fun (x : (GR × Unit)) => xJ F x.1) (fun (r : (Int × Bool)) => (.tup [Enc.enc (r.1 : Int), Enc.enc (r.2 : Bool)])) 0 false []
abbrev C12 (D : List V → Option V) (F : Nat) : Prop := ∀ (x0 : GR) r, xJ F x0 = some r → D [Enc.enc x0] = some (.tup [Enc.enc (r.1 : Int), Enc.enc (r.2 : Bool)])
theorem p12 {F : Nat} : C12 (e12 F).den F := fun x0 _ h => zJ (x0, ()) h
theorem o12 {D : Den} {σ : Sig} {F : Nat} (hF : zu Try.prog D σ) (H : H12 D σ F) : (e12 F).Ok Try.prog := by
 refine yd (f := 12) (show unk 12 = 12 from rfl) (fun args r h => ?_) ⟨Try.f12, Try.func12, rfl, rfl⟩
 obtain ⟨⟨x0, _⟩, y, rfl, hy, rfl⟩ := zH h
 exact zk hF (by kernel_rfl) Try.func12 rfl c12 (show 1 ≤ Try.f12.ntmps by decide) (t12 H x0 _ rfl hy)
def zhQ : AC := (.cond (.t 14) .skip (.exit 0))
def zfL : AC := (.seq (.reg [] [jm 45 8, jm 46 10, jv 47 (.bin .shl (jn 1) (.t 46)), jv 48 (.bin .or (.t 45) (.t 47)), jm 8 48] []) (.exit 2))
def zhz : AC := (.cond (.t 40) (.seq (.reg [.clr [43, 44]] [jm 41 7, jm 42 10, jx 43 (.lit i0 1 [(0, 0, .t 42)]), jx 44 (.app .s (.t 41) (.t 43)), jm 7 44] [.home 44 7]) zfL) .skip)
def zg1 : AC := (.seq (.reg [] [jm 25 2, jm 26 8, jm 27 10, jx 28 (.call (.t 25) [.t 26, .t 27]), jm 29 1, jm 30 8, jm 31 10, jv 32 (.bin .shl (jn 1) (.t 31)), jv 33 (.bin .or (.t 30) (.t 32)), jv 34 (.idx (.t 29) (.t 33) 1), jv 35 (.load .s (.t 34)), jv 36 (.mx [.t 28, .t 35]), jm 37 1, jv 38 (.idx (.t 37) (jn 0) 1), jv 39 (.load .s (.t 38)), jv 40 (.bin .leq (.t 36) (.t 39))] []) zhz)
def zfd : AC := (.reg [] [jv 49 (.bin .add (.t 21) (jn 1)), jm 21 49] [])
def zhK : AC := (.seq (.block 3 (.seq (.reg [] [jv 23 (.idx (.t 19) (.t 21) 1), jv 24 (.load .s (.t 23)), jm 10 24] []) zg1)) zfd)
def zhF : AC := (.seq (.cond (.t 22) .skip (.exit 2)) zhK)
def NT : AC := (.seq (.reg [] [jv 22 (.bin .lss (.t 21) (.t 20))] []) zhF)
def zg8 : AC := (.block 2 (.loop NT))
def zhg : AC := (.block 1 (.seq (.reg [] [jv 15 (.load (.ag [.p]) (.t 3)), jx 16 (.call (jf 34) [.t 15]), jm 17 8, jv 18 (.bin .andNot (.t 16) (.t 17)), jx 19 (.call (jf 41) [.t 18]), jv 20 (.len (.t 19)), jv 21 (.mov (jn 0))] []) zg8))
def WY : AC := (.seq (.seq (.reg [] [jm 11 8, jv 12 (.load (.ag [.p]) (.t 3)), jx 13 (.call (jf 34) [.t 12]), jv 14 (.bin .neq (.t 11) (.t 13))] []) zhQ) zhg)
def UI : AC := (.seq (.reg [] [jm 50 7, jm 6 50] [.home 7 6]) .ret)
def zes : AC := (.block 0 (.loop WY))
def zeO : AC := (.seq (.seq (.reg [] [jv 8 (.mov (jn 0))] []) zes) UI)
def zem : AC := (.seq (.reg [] [jv 7 (.mov (.k (.sl .nl .s 0 [])))] []) zeO)
def zid : AC := (.seq (.reg [.clr [3]] [jx 3 (.box (.t 0)), jv 6 (.mov (.k (.sl .nl .s 0 [])))] []) zem)
def zjw : List An := [⟨0, [.clr [3]], [], [], []⟩, ⟨8, [.clr [43, 44]], [], [], [.home 44 7]⟩, ⟨11, [], [], [], [.home 7 6]⟩]
theorem c30s1 : cC Try.prog Try.f30.ntmps zjw (Try.f30.body.getD .skip) = some zid := by kernel_rfl
structure zbP (D : Den) (σ : Sig) (F : Nat) : Prop where
 c34 : C34 (D 34) F
 g34 : σ 34 = some (0, false)
 c41 : C41 (D 41) F
 g41 : σ 41 = some (0, false)
 c24 : C24 (D 24) F
 g24 : σ 24 = some (0, false)
abbrev zck (r : LI) : (Nat → V) → Prop := RR Try.prog [.tmp 6] 0 false (eL r)
section
variable {D : Den} {σ : Sig} {F : Nat} {r : LI}
def zZ (F : Nat) (x_2 : LI) (x_3 : (Cl 24 ((S1 LI) × Unit) Unit)) (x_1 : (S1 LI)) (x_35 : (NL Int)) (x_36 : Int) (r_70 : LI) (c1 : (NL Int) → Int → Option LI) : Nat → Int → Option LI
 | 0, _ => none
 | k + 1, x_80 =>
   bif decide (x_80 < (r_70.length : Int)) then
    (idx r_70 x_80).bind fun e_90 =>
    (yr F x_3.fs.1 x_36 e_90).bind fun r_91 =>
    (ZW .i64 1 e_90).bind fun q_92 =>
    (idx x_2 (ior .i64 x_36 q_92)).bind fun e_93 =>
    (idx x_2 0).bind fun e_94 =>
    bif decide ((if e_93 > r_91 then e_93 else r_91) ≤ e_94) then
     (wM x_35.list [e_90]).bind fun ap_97 =>
     (ZW .i64 1 e_90).bind fun q_98 =>
     c1 (.of ap_97) (ior .i64 x_36 q_98)
    else
     (zZ F x_2 x_3 x_1 x_35 x_36 r_70 c1 k) (w64 (x_80 + 1))
   else
    c1 x_35 x_36
theorem zbt (H : zbP D σ F) (x_2 : LI) (x_3 : (Cl 24 ((S1 LI) × Unit) Unit)) (x_1 : (S1 LI)) (x_35 : (NL Int)) (x_36 : Int) (r_70 : LI) (c1 : (NL Int) → Int → Option LI) (Hc1 : ∀ (x_35 : (NL Int)) (x_36 : Int) (s : Nat → V), zl [(1, eL x_2), (2, .fn 24 [.agg [eL x_3.fs.1.a]] []), (3, .ref (.bx 3) 0 [] (.agg [eL x_1.a])), (6, nI), (7, oI 7 [] x_35), (8, ji x_36)] s → c1 x_35 x_36 = some r → Run D σ (zck r) (.run WY [.lp WY, .bk 0, .sq UI]) s) : ∀ (k : Nat) (x_80 : Int) (s : Nat → V), zl [(1, eL x_2), (2, .fn 24 [.agg [eL x_3.fs.1.a]] []), (3, .ref (.bx 3) 0 [] (.agg [eL x_1.a])), (6, nI), (7, oI 7 [] x_35), (8, ji x_36), (19, eL r_70), (20, ji (r_70.length : Int)), (21, ji x_80)] s → zZ F x_2 x_3 x_1 x_35 x_36 r_70 c1 k x_80 = some r → Run D σ (zck r) (.run NT [.lp NT, .bk 2, .bk 1, .lp WY, .bk 0, .sq UI]) s := by
 intro k
 induction k with
 | zero => intro x_80 s _ h; exact nm h
 | succ k ih =>
   intro x_80 s hs h
   rw [zZ] at h
   obtain ⟨h1, h2, h3, h6, h7, h8, h19, h20, h21⟩ := hs
   refine .seq (rg (g2 21 20 (jb (decide (x_80 < (r_70.length : Int)))) h21 h20 fun h22 => gq (.nsq (.seq (zi (t := decide (x_80 < (r_70.length : Int))) h22 h (fun h => ?_) (fun h => ?_))))))
   · refine .skip (.nsq (.seq (.block (.seq (rg ?_)))))
     obtain ⟨e_90, E_e_90, h⟩ := bind_some h
     refine gv (.ref .sh 0 [] (ji e_90)) (yu (t := .sh) (lo := 0) (xs := r_70) h19 h21 E_e_90 rfl rfl) fun h23 => g1 23 (ji e_90) h23 fun h24 => gm h24 fun h10 => gq (.nsq (.seq (rg (gm h2 fun h25 => gm h8 fun h26 => gm h10 fun h27 => ?_))))
     obtain ⟨r_91, E_r_91, h⟩ := bind_some h
     refine zcH (m := 0) (al := false) (r := Enc.enc (r_91 : Int)) (fs := [.agg [eL x_3.fs.1.a]]) (env := []) (us := [Enc.enc (x_3.fs.1 : (S1 LI))]) (ws := []) h25 (vJ (Enc.erase_enc (x_3.fs.1 : (S1 LI))) wm) wm rfl [Enc.enc (x_36 : Int), Enc.enc (e_90 : Int)] (zd (v := ji x_36) h26 rfl rfl (zd (v := ji e_90) h27 rfl rfl zw)) (H.c24 _ _ _ _ E_r_91) H.g24 rfl rfl rfl rfl (gm h1 fun h29 => gm h8 fun h30 => gm h10 fun h31 => ?_)
     obtain ⟨q_92, E_q_92, h⟩ := bind_some h
     refine gv (ji q_92) (v9 rfl h31 E_q_92) fun h32 => g2 30 32 (ji (ior .i64 x_36 q_92)) h30 h32 fun h33 => ?_
     obtain ⟨e_93, E_e_93, h⟩ := bind_some h
     refine gv (.ref .sh 0 [] (ji e_93)) (yu (t := .sh) (lo := 0) (xs := x_2) h29 h33 E_e_93 rfl rfl) fun h34 => g1 34 (ji e_93) h34 fun h35 => g2 28 35 (ji (if e_93 > r_91 then e_93 else r_91)) (rf (ji r_91)) h35 fun h36 => gm h1 fun h37 => ?_
     obtain ⟨e_94, E_e_94, h⟩ := bind_some h
     refine gv (.ref .sh 0 [] (ji e_94)) (yu (t := .sh) (lo := 0) (xs := x_2) h37 rfl E_e_94 rfl rfl) fun h38 => g1 38 (ji e_94) h38 fun h39 => g2 36 39 (jb (decide ((if e_93 > r_91 then e_93 else r_91) ≤ e_94))) h36 h39 fun h40 => gz [(1, _), (2, _), (3, _), (6, _), (7, _), (8, _), (10, _), (19, _), (20, _), (21, _), (40, _)] ⟨h1, h2, h3, h6, h7, h8, h10, h19, h20, h21, h40⟩ ?_
     rintro s ⟨h1, h2, h3, h6, h7, h8, h10, h19, h20, h21, h40⟩
     refine .nsq (zi (t := decide ((if e_93 > r_91 then e_93 else r_91) ≤ e_94)) h40 h (fun h => ?_) (fun h => ?_))
     · refine .seq (zt (zR ?_))
       refine ez [(1, _), (2, _), (3, _), (6, _), (7, _), (8, _), (10, _), (19, _), (20, _), (21, _), (43, _), (44, _)] ⟨za h1 rfl me, za h2 rfl (Uc (ze (zF (ze me zn)) zn) zn), za h3 rfl (zh rfl (zF (ze me zn))), za h6 rfl rfl, za h7 rfl (zm (r := 7) (p := []) rfl rfl), za h8 rfl mi, za h10 rfl mi, za h19 rfl me, za h20 rfl mi, za h21 rfl mi, zb rfl, zb rfl⟩ ?_
       rintro s ⟨h1, h2, h3, h6, h7, h8, h10, h19, h20, h21, h43, h44⟩
       refine gv (oI 7 [] x_35) (Yl h7 vW) fun h41 => gm h10 fun h42 => xf [(42, ji e_90)] [Enc.enc (e_90 : Int)] h42 rfl rfl h43 ?_
       obtain ⟨ap_97, E_ap_97, h⟩ := bind_some h
       refine XZ (q := 7) (p := []) (o := (x_35 : NL Int)) (ys := ([e_90] : LI)) (t2 := .at 43 []) (lo2 := 0) h41 rfl rfl h44 (ZV (o := (x_35 : NL Int)) E_ap_97 (by split <;> simp)) (fun s_54 ha_54 => gm (rf (oI 44 [] (.of ap_97))) fun h7 => yE (yq (r := 44) (x := 7) (v := _) h7 rfl (fun s_55 hg_55 => ?_)))
       refine ez [(1, eL x_2), (2, .fn 24 [.agg [eL x_3.fs.1.a]] []), (3, .ref (.bx 3) 0 [] (.agg [eL x_1.a])), (6, nI), (7, oI 7 [] (.of ap_97)), (8, ji x_36), (10, ji e_90), (19, eL r_70), (20, ji (r_70.length : Int)), (21, ji x_80)] ⟨hg_55 1 _ _ (show s_54 1 = (eL x_2) from zU ha_54 h1 me) me, hg_55 2 _ _ (show s_54 2 = (.fn 24 [.agg [eL x_3.fs.1.a]] []) from zU ha_54 h2 (Uc (ze (zF (ze me zn)) zn) zn)) (Uc (ze (zF (ze me zn)) zn) zn), hg_55 3 _ _ (show s_54 3 = (.ref (.bx 3) 0 [] (.agg [eL x_1.a])) from zU ha_54 h3 (zh rfl (zF (ze me zn)))) (zh rfl (zF (ze me zn))), hg_55 6 _ nI (show s_54 6 = nI from zU ha_54 h6 rfl) rfl, hg_55 7 _ _ h7 (zm (r := 44) (p := []) rfl rfl), hg_55 8 _ _ (show s_54 8 = (ji x_36) from zU ha_54 h8 mi) mi, hg_55 10 _ _ (show s_54 10 = (ji e_90) from zU ha_54 h10 mi) mi, hg_55 19 _ _ (show s_54 19 = (eL r_70) from zU ha_54 h19 me) me, hg_55 20 _ _ (show s_54 20 = (ji (r_70.length : Int)) from zU ha_54 h20 mi) mi, hg_55 21 _ _ (show s_54 21 = (ji x_80) from zU ha_54 h21 mi) mi⟩ ?_
       rintro s ⟨h1, h2, h3, h6, h7, h8, h10, h19, h20, h21⟩
       refine .nsq (.seq (rg (gm h8 fun h45 => gm h10 fun h46 => ?_)))
       obtain ⟨q_98, E_q_98, h⟩ := bind_some h
       refine gv (ji q_98) (v9 rfl h46 E_q_98) fun h47 => g2 45 47 (ji (ior .i64 x_36 q_98)) h45 h47 fun h48 => gm h48 fun h8 => gq (.nsq (.exit (.ebn (by decide) (.esq (.elp (.ebk (.nbk (.nlp ?_))))))))
       exact Hc1 (.of ap_97) (ior .i64 x_36 q_98) _ ⟨h1, h2, h3, h6, h7, h8⟩ h
     refine .skip (.nbk (.nsq (rg (g1 21 (ji (w64 (x_80 + 1))) h21 fun h49 => gm h49 fun h21 => gq (.nlp ?_)))))
     exact ih (w64 (x_80 + 1)) _ ⟨h1, h2, h3, h6, h7, h8, h19, h20, h21⟩ h
   refine .exit (.esq (.elp (.ebk (.nbk (.nlp ?_)))))
   exact Hc1 x_35 x_36 _ ⟨h1, h2, h3, h6, h7, h8⟩ h
def zT (F : Nat) (x_2 : LI) (x_3 : (Cl 24 ((S1 LI) × Unit) Unit)) (x_1 : (S1 LI))  : Nat → (NL Int) → Int → Option LI
 | 0, _, _ => none
 | k + 1, x_35, x_36 =>
   (y8 F x_1).bind fun r_68 =>
   bif (x_36 != r_68) then
    (y8 F x_1).bind fun r_69 =>
    (uk F (wC .i64 r_69 x_36)).bind fun r_70 =>
    zZ F x_2 x_3 x_1 x_35 x_36 r_70 (zT F x_2 x_3 x_1 k) F 0
   else
    some x_35.list
theorem zaL (H : zbP D σ F) (x_2 : LI) (x_3 : (Cl 24 ((S1 LI) × Unit) Unit)) (x_1 : (S1 LI))  : ∀ (k : Nat) (x_35 : (NL Int)) (x_36 : Int) (s : Nat → V), zl [(1, eL x_2), (2, .fn 24 [.agg [eL x_3.fs.1.a]] []), (3, .ref (.bx 3) 0 [] (.agg [eL x_1.a])), (6, nI), (7, oI 7 [] x_35), (8, ji x_36)] s → zT F x_2 x_3 x_1 k x_35 x_36 = some r → Run D σ (zck r) (.run WY [.lp WY, .bk 0, .sq UI]) s := by
 intro k
 induction k with
 | zero => intro x_35 x_36 s _ h; exact nm h
 | succ k ih =>
   intro x_35 x_36 s hs h
   rw [zT] at h
   obtain ⟨h1, h2, h3, h6, h7, h8⟩ := hs
   refine .seq (.seq (rg (gm h8 fun h11 => g1 3 (.agg [eL x_1.a]) h3 fun h12 => ?_)))
   obtain ⟨r_68, E_r_68, h⟩ := bind_some h
   refine zB (m := 0) (al := false) (r := Enc.enc (r_68 : Int)) [Enc.enc (x_1 : (S1 LI))] (zd (v := .agg [eL x_1.a]) h12 rfl (Enc.erase_enc (x_1 : (S1 LI))) zw) (H.c34 _ _ E_r_68) H.g34 rfl rfl rfl rfl (g2 11 13 (jb (x_36 != r_68)) h11 (rf (ji r_68)) fun h14 => gq (.nsq (zi (t := (x_36 != r_68)) h14 h (fun h => ?_) (fun h => ?_))))
   · refine .skip (.nsq (.block (.seq (rg (g1 3 (.agg [eL x_1.a]) h3 fun h15 => ?_)))))
     obtain ⟨r_69, E_r_69, h⟩ := bind_some h
     refine zB (m := 0) (al := false) (r := Enc.enc (r_69 : Int)) [Enc.enc (x_1 : (S1 LI))] (zd (v := .agg [eL x_1.a]) h15 rfl (Enc.erase_enc (x_1 : (S1 LI))) zw) (H.c34 _ _ E_r_69) H.g34 rfl rfl rfl rfl (gm h8 fun h17 => g2 16 17 (ji (wC .i64 r_69 x_36)) (rf (ji r_69)) h17 fun h18 => ?_)
     obtain ⟨r_70, E_r_70, h⟩ := bind_some h
     refine zB (m := 0) (al := false) (r := eL r_70) [Enc.enc (wC .i64 r_69 x_36 : Int)] (zd (v := ji (wC .i64 r_69 x_36)) h18 rfl rfl zw) (H.c41 _ _ E_r_70) H.g41 rfl rfl rfl rfl (gv (ji (r_70.length : Int)) (yo (xs := r_70) rfl) fun h20 => g0 (ji 0) fun h21 => gq (.nsq (.block (.loop ?_))))
     exact zbt H x_2 x_3 x_1 x_35 x_36 r_70 (zT F x_2 x_3 x_1 k) ih F 0 _ ⟨h1, h2, h3, h6, h7, h8, rfl, h20, h21⟩ h
   refine .exit (.esq (.elp (.ebk (.nsq (.seq (rg (gv (oI 7 [] x_35) (Yl h7 vW) fun h50 => gv (oI 7 [] x_35) (Yl h50 vW) fun h6 => yE (yq (r := 7) (x := 6) (v := _) h6 vW (fun s_56 hg_56 => ?_)))))))))
   refine ez [(6, oI 6 [] x_35)] (hg_56 6 _ _ h6 (zm (r := 7) (p := []) rfl rfl)) ?_
   rintro s h6
   refine .nsq (.ret ?_)
   have hr := Option.some.inj h
   subst hr
   exact rrA (zf h6) (ug (wz (o := x_35)) (wn rfl))
def ya (F : Nat) (x_1 : (S1 LI)) (x_2 : LI) (x_3 : (Cl 24 ((S1 LI) × Unit) Unit)) : Option LI :=
 zT F x_2 x_3 x_1 F .nil 0
theorem zm1 (H : zbP D σ F) (x_1 : (S1 LI)) (x_2 : LI) (x_3 : (Cl 24 ((S1 LI) × Unit) Unit)) (s : Nat → V) (hs : zl [(0, .agg [eL x_1.a]), (1, eL x_2), (2, .fn 24 [.agg [eL x_3.fs.1.a]] [])] s) (h : ya F x_1 x_2 x_3 = some r) : Run D σ (zck r) (.run zid []) s := by
 unfold ya at h
 obtain ⟨h0, h1, h2⟩ := hs
 refine .seq (zt (zR ?_))
 refine ez [(0, _), (1, _), (2, _), (3, _)] ⟨za h0 rfl (zF (ze me zn)), za h1 rfl me, za h2 rfl (Uc (ze (zF (ze me zn)) zn) zn), zb rfl⟩ ?_
 rintro s ⟨h0, h1, h2, h3⟩
 refine xB (.agg [eL x_1.a]) (zy h0 rfl) h3 rfl (g0 nI fun h6 => gq (.nsq (.seq (rg (g0 nI fun h7 => gq (.nsq (.seq (.seq (rg (g0 (ji 0) fun h8 => gq (.nsq (.block (.loop ?_)))))))))))))
 exact zaL H x_2 x_3 x_1 F .nil 0 _ ⟨h1, h2, rfl, h6, h7, h8⟩ h
end
def zgE (F : Nat) : Ent := ent 30 (fun (x : ((S1 LI) × LI × (Cl 24 ((S1 LI) × Unit) Unit) × Unit)) => ya F x.1 x.2.1 x.2.2.1) (fun (r : LI) => (eL r)) 0 false [(2, 24)]
abbrev ziG (D : List V → Option V) (F : Nat) : Prop := ∀ (x0 : (S1 LI)) (x1 : LI) (x2 : (Cl 24 ((S1 LI) × Unit) Unit)) r, ya F x0 x1 x2 = some r → D [Enc.enc x0, Enc.enc x1, Arg.arg x2] = some (eL r)
theorem zpp {F : Nat} : ziG (zgE F).den F := fun x0 x1 x2 _ h => zJ (x0, x1, x2, ()) h
theorem zmy {D : Den} {σ : Sig} {F : Nat} (hF : zu Try.prog D σ) (H : zbP D σ F) : (zgE F).Ok Try.prog := by
 refine yd (f := 30) (show unk 30 = 30 from rfl) (fun args r h => ?_) ⟨Try.f30, Try.func30, rfl, rfl⟩
 obtain ⟨⟨x0, x1, x2, _⟩, y, rfl, hy, rfl⟩ := zH h
 exact zk hF (by kernel_rfl) Try.func30 rfl c30s1 (show 3 ≤ Try.f30.ntmps by decide) (zm1 H x0 x1 x2 _ ⟨rfl, rfl, rfl⟩ hy)
def zoL : AC := (.cond (.t 7) (.seq (.reg [] [jv 2 (.mov (.k (.sl .nl .s 0 []))), jv 3 (.mov kf)] []) .ret) .skip)
def zk4 : AC := (.seq (.reg [] [jv 10 (.load (.ag [.p]) (.t 4)), jv 11 (.load (.ag [.p]) (.t 4)), jv 12 (.load (.ag [.p]) (.t 4)), jv 13 (.fn 24 [.t 12] []), jx 14 (.call (jf 31) [.t 11, jn 0, .t 13]), jv 15 (.load (.ag [.p]) (.t 4)), jv 16 (.fn 24 [.t 15] []), jx 17 (.call (jf 30) [.t 10, .t 14, .t 16]), jm 2 17, jv 3 (.mov kt)] []) .ret)
def zmg : AC := (.seq (.reg [.clr [4]] [jv 8 (.load (.ag [.s, .p]) (.t 1)), jx 9 (.call (jf 23) [.t 8]), jx 4 (.alloc (.agg [.sl .nl .s 0 []])), jz (.store (.ag [.p]) (.t 4) (.t 9))] []) zk4)
def znM : AC := (.seq (.seq (.reg [] [jv 5 (.load (.ag [.s, .p]) (.t 1)), jx 6 (.call (jf 21) [.t 5]), jv 7 (.un .not (.t 6))] []) zoL) zmg)
def A13 : AC := (.seq (.reg [.clr [1]] [jx 1 (.box (.t 0)), jv 2 (.mov (.k (.sl .nl .s 0 []))), jv 3 (.mov kf)] []) znM)
def zre : List An := [⟨0, [.clr [1]], [], [], []⟩, ⟨3, [.clr [4]], [], [], []⟩]
theorem c13 : cC Try.prog Try.f13.ntmps zre (Try.f13.body.getD .skip) = some A13 := by kernel_rfl
structure H13 (D : Den) (σ : Sig) (F : Nat) : Prop where
 c21 : C21 (D 21) F
 g21 : σ 21 = some (0, false)
 c23 : C23 (D 23) F
 g23 : σ 23 = some (0, false)
 c31s1 : zee (D 31) F
 g31s1 : σ 31 = some (0, false)
 c30s1 : ziG (D 30) F
 g30s1 : σ 30 = some (0, false)
abbrev R13 (r : (LI × Bool)) : (Nat → V) → Prop := RR Try.prog [.tmp 2, .tmp 3] 0 true (.tup [eL r.1, Enc.enc (r.2 : Bool)])
section
variable {D : Den} {σ : Sig} {F : Nat} {r : (LI × Bool)}
def xH (F : Nat) (x_1 : GR) : Option (LI × Bool) :=
 (xP F x_1).bind fun r_2 =>
 bif (!r_2) then
  some ([], false)
 else
  (vp F x_1).bind fun r_3 =>
  (zO F r_3 0 (Cl.mk (r_3, ()) () : (Cl 24 ((S1 LI) × Unit) Unit))).bind fun r_4 =>
  (ya F r_3 r_4 (Cl.mk (r_3, ()) () : (Cl 24 ((S1 LI) × Unit) Unit))).bind fun r_5 =>
  some (r_5, true)
theorem t13 (H : H13 D σ F) (x_1 : GR) (s : Nat → V) (hs : zl [(0, gV x_1)] s) (h : xH F x_1 = some r) : Run D σ (R13 r) (.run A13 []) s := by
 unfold xH at h
 have h0 := hs
 refine .seq (zt (zR ?_))
 refine ez [(0, _), (1, _)] ⟨za h0 rfl mIE, zb rfl⟩ ?_
 rintro s ⟨h0, h1⟩
 refine xB (gV x_1) (zy h0 rfl) h1 rfl (g0 nI fun h2 => g0 (jb false) fun h3 => gq (.nsq (.seq (.seq (rg (g1 1 (gV x_1) (rf (bG 1 x_1)) fun h5 => ?_))))))
 obtain ⟨r_2, E_r_2, h⟩ := bind_some h
 refine zB (m := 0) (al := false) (r := Enc.enc (r_2 : Bool)) [Enc.enc (x_1 : GR)] (zd (v := gV x_1) h5 rfl (Enc.erase_enc (x_1 : GR)) zw) (H.c21 _ _ E_r_2) H.g21 rfl rfl rfl rfl (g1 6 (jb (!r_2)) (rf (jb r_2)) fun h7 => gq (.nsq (zi (t := (!r_2)) h7 h (fun h => ?_) (fun h => ?_))))
 · refine .seq (rg (g0 nI fun h2 => g0 (jb false) fun h3 => gq (.nsq (.ret ?_))))
   have hr := Option.some.inj h
   subst hr
   exact rrB (zf h2) (zf h3) (xL (wo (zY (wz (o := (.nil : NL Int)) (t := .nl)) (zY (yO (x := (false : Bool))) xv))))
 refine .skip (.nsq (.seq (zt (zR ?_))))
 refine ez [(1, _), (2, _), (3, _), (4, _)] ⟨za rfl rfl (zh rfl mIE), za h2 rfl rfl, za h3 rfl mb, zb rfl⟩ ?_
 rintro s ⟨h1, h2, h3, h4⟩
 refine g1 1 (gV x_1) h1 fun h8 => ?_
 obtain ⟨r_3, E_r_3, h⟩ := bind_some h
 refine zB (m := 0) (al := false) (r := Enc.enc (r_3 : (S1 LI))) [Enc.enc (x_1 : GR)] (zd (v := gV x_1) h8 rfl (Enc.erase_enc (x_1 : GR)) zw) (H.c23 _ _ E_r_3) H.g23 rfl rfl rfl rfl (xp h4 (z7 (.agg [eL r_3.a]) (zy rfl rfl) (zy rfl rfl) (xR (by first | rfl | simp [V.toks, V.tokss, Enc.toks_enc, z4])) (gz [(2, nI), (3, jb false), (4, .ref (.bx 4) 0 [] (.agg [eL r_3.a]))] ⟨zc h2 rfl, zc h3 rfl, zc rfl rfl⟩ ?_)))
 rintro s ⟨h2, h3, h4⟩
 refine .nsq (.seq (rg (g1 4 (.agg [eL r_3.a]) h4 fun h10 => g1 4 (.agg [eL r_3.a]) h4 fun h11 => g1 4 (.agg [eL r_3.a]) h4 fun h12 => g1 12 (.fn 24 [.agg [eL r_3.a]] []) h12 fun h13 => ?_)))
 obtain ⟨r_4, E_r_4, h⟩ := bind_some h
 refine zB (m := 0) (al := false) (r := eL r_4) [Enc.enc (r_3 : (S1 LI)), Enc.enc (0 : Int), Arg.arg ((Cl.mk (r_3, ()) () : (Cl 24 ((S1 LI) × Unit) Unit)) : (Cl 24 ((S1 LI) × Unit) Unit))] (zd (v := .agg [eL r_3.a]) h11 rfl (Enc.erase_enc (r_3 : (S1 LI))) (zd (v := ji 0) rfl rfl rfl (zd (v := .fn 24 [.agg [eL r_3.a]] []) h13 rfl (KD (vJ (Enc.erase_enc (r_3 : (S1 LI))) wm) wm) zw))) (H.c31s1 _ _ _ _ E_r_4) H.g31s1 rfl rfl rfl rfl (g1 4 (.agg [eL r_3.a]) h4 fun h15 => g1 15 (.fn 24 [.agg [eL r_3.a]] []) h15 fun h16 => ?_)
 obtain ⟨r_5, E_r_5, h⟩ := bind_some h
 refine zB (m := 0) (al := false) (r := eL r_5) [Enc.enc (r_3 : (S1 LI)), eL r_4, Arg.arg ((Cl.mk (r_3, ()) () : (Cl 24 ((S1 LI) × Unit) Unit)) : (Cl 24 ((S1 LI) × Unit) Unit))] (zd (v := .agg [eL r_3.a]) h10 rfl (Enc.erase_enc (r_3 : (S1 LI))) (zd (v := eL r_4) rfl rfl (Enc.erase_enc (r_4 : LI)) (zd (v := .fn 24 [.agg [eL r_3.a]] []) h16 rfl (KD (vJ (Enc.erase_enc (r_3 : (S1 LI))) wm) wm) zw))) (H.c30s1 _ _ _ _ E_r_5) H.g30s1 rfl rfl rfl rfl (gm (rf (eL r_5)) fun h2 => g0 (jb true) fun h3 => gq (.nsq (.ret ?_)))
 have hr := Option.some.inj h
 subst hr
 exact rrB (zf h2) (zf h3) (xL (wo (zY (yO (x := (r_5 : LI))) (zY (yO (x := (true : Bool))) xv))))
end
def e13 (F : Nat) : Ent := ent 13 (fun (x : (GR × Unit)) => xH F x.1) (fun (r : (LI × Bool)) => (.tup [eL r.1, Enc.enc (r.2 : Bool)])) 0 true []
abbrev C13 (D : List V → Option V) (F : Nat) : Prop := ∀ (x0 : GR) r, xH F x0 = some r → D [Enc.enc x0] = some (.tup [eL r.1, Enc.enc (r.2 : Bool)])
theorem p13 {F : Nat} : C13 (e13 F).den F := fun x0 _ h => zJ (x0, ()) h
theorem o13 {D : Den} {σ : Sig} {F : Nat} (hF : zu Try.prog D σ) (H : H13 D σ F) : (e13 F).Ok Try.prog := by
 refine yd (f := 13) (show unk 13 = 13 from rfl) (fun args r h => ?_) ⟨Try.f13, Try.func13, rfl, rfl⟩
 obtain ⟨⟨x0, _⟩, y, rfl, hy, rfl⟩ := zH h
 exact zk hF (by kernel_rfl) Try.func13 rfl c13 (show 1 ≤ Try.f13.ntmps by decide) (t13 H x0 _ rfl hy)
def zkx : AC := (.seq (.reg [.clr [3, 5]] [jx 3 (.lit i0 0 []), jm 4 0, jx 5 (.app .s (.t 3) (.t 4)), jm 2 5] [.home 5 2]) .ret)
def zn9 : AC := (.seq (.reg [] [jv 2 (.mov (.k (.sl .nl .s 0 [])))] []) zkx)
def znE : List An := [⟨1, [.clr [3, 5]], [], [], [.home 5 2]⟩]
theorem c56o : cC Try.prog Try.f56.ntmps znE (Try.f56.body.getD .skip) = some zn9 := by kernel_rfl
structure zny (D : Den) (σ : Sig) (F : Nat) : Prop where
 mk ::
abbrev zq9 (r : (NL Int)) : (Nat → V) → Prop := RR Try.prog [.tmp 2] 1 false (zj .sh (r : NL Int))
section
variable {D : Den} {σ : Sig} {F : Nat} {r : (NL Int)}
def Zz (F : Nat) (x_1 : LI) : Option (NL Int) :=
 (wM [] x_1).bind fun ap_2 =>
 some (.of ap_2)
theorem zp3 (H : zny D σ F) (x_1 : LI) (s : Nat → V) (hs : zl [(0, eL x_1)] s) (h : Zz F x_1 = some r) : Run D σ (zq9 r) (.run zn9 []) s := by
 unfold Zz at h
 have h0 := hs
 refine .seq (rg (g0 nI fun h2 => gq (.nsq (.seq (zt (zR ?_))))))
 refine ez [(0, _), (2, _), (3, _), (5, _)] ⟨za h0 rfl me, za h2 rfl rfl, zb rfl, zb rfl⟩ ?_
 rintro s ⟨h0, h2, h3, h5⟩
 refine xf [] [] trivial rfl rfl h3 (gm h0 fun h4 => ?_)
 obtain ⟨ap_2, E_ap_2, h⟩ := bind_some h
 refine XZ (q := 3) (p := []) (o := .of ([] : LI)) (ys := (x_1 : LI)) (t2 := .sh) (lo2 := 0) rfl h4 rfl h5 (ZV (o := .of ([] : LI)) E_ap_2 trivial) (fun s_2 ha_2 => gm (rf (oI 5 [] (.of ap_2))) fun h2 => yE (yq (r := 5) (x := 2) (v := _) h2 rfl (fun s_3 hg_3 => ?_)))
 refine ez [(2, oI 2 [] (.of ap_2))] (hg_3 2 _ _ h2 (zm (r := 5) (p := []) rfl rfl)) ?_
 rintro s h2
 refine .nsq (.ret ?_)
 have hr := Option.some.inj h
 subst hr
 exact rrA (zf h2) (Xj (Xc (o := ((.of ap_2) : NL Int))) rfl (wn rfl))
end
def zjt (F : Nat) : Ent := ent 1000000056 (fun (x : (LI × Unit)) => Zz F x.1) (fun (r : (NL Int)) => (zj .sh (r : NL Int))) 1 false []
abbrev zoh (D : List V → Option V) (F : Nat) : Prop := ∀ (x0 : LI) r, Zz F x0 = some r → D [Enc.enc x0] = some (zj .sh (r : NL Int))
theorem zqa {F : Nat} : zoh (zjt F).den F := fun x0 _ h => zJ (x0, ()) h
theorem zqk {D : Den} {σ : Sig} {F : Nat} (hF : zu Try.prog D σ) (H : zny D σ F) : (zjt F).Ok Try.prog := by
 refine yd (f := 56) (show unk 1000000056 = 56 from rfl) (fun args r h => ?_) ⟨Try.f56, Try.func56, rfl, rfl⟩
 obtain ⟨⟨x0, _⟩, y, rfl, hy, rfl⟩ := zH h
 exact zk hF (by kernel_rfl) Try.func56 rfl c56o (show 1 ≤ Try.f56.ntmps by decide) (zp3 H x0 _ rfl hy)
def zm2 : AC := (.cond (.t 27) .skip (.exit 0))
def zn4 : AC := (.cond (.t 32) (.exit 1) .skip)
def zmh : AC := (.cond (.t 44) (.seq (.reg [] [jm 45 9, jm 6 45, jv 7 (.mov kt)] []) .ret) .skip)
def zm6 : AC := (.seq (.reg [] [jm 44 10] []) zmh)
def zpe : AC := (.seq (.reg [.clr [36, 38, 39]] [jv 34 (.load (.ag [.s, .p]) (.t 3)), jm 35 1, jy 36 (.callO (jf 56) [.t 35]), jm 37 8, jx 38 (.lit i0 1 [(0, 0, .t 37)]), jy 39 (.appS .s (.t 36) (.t 38)), jm 40 2, jx 41 (.call (jf 32) [.t 34, .t 39, .t 40]), jm 33 41, jv 42 (.ext (.t 33) 0), jv 43 (.extS (.t 33) 1), jm 9 42, jm 10 43] []) zm6)
def zlQ : AC := (.reg [] [jm 28 8, jv 29 (.bin .add (.t 28) (jn 1)), jm 8 29] [])
def zms : AC := (.seq (.block 1 (.seq (.seq (.reg [] [jm 30 1, jm 31 8, jx 32 (.call (jf 53) [.t 30, .t 31])] []) zn4) zpe)) zlQ)
def zfw : AC := (.seq (.seq (.reg [] [jm 24 8, jv 25 (.fld (.t 3) 0 0), jv 26 (.load .s (.t 25)), jv 27 (.bin .lss (.t 24) (.t 26))] []) zm2) zms)
def zh7 : AC := (.seq (.reg [.clr [46]] [jx 46 (.lit i0 0 []), jm 6 46, jv 7 (.mov kf)] [.home 46 6]) .ret)
def zkH : AC := (.cond (.t 16) (.seq (.reg [.clr [17]] [jx 17 (.lit i0 0 []), jm 6 17, jv 7 (.mov kf)] [.home 17 6]) .ret) .skip)
def zjv : AC := (.cond (.t 22) (.seq (.reg [] [jm 23 1, jm 6 23, jv 7 (.mov kt)] []) .ret) .skip)
def zkG : AC := (.block 0 (.loop zfw))
def zj5 : AC := (.seq (.seq (.reg [] [jv 8 (.mov (jn 0))] []) zkG) zh7)
def zi6 : AC := (.seq (.seq (.reg [] [jm 18 1, jv 19 (.len (.t 18)), jv 20 (.fld (.t 3) 0 0), jv 21 (.load .s (.t 20)), jv 22 (.bin .eql (.t 19) (.t 21))] []) zjv) zj5)
def ziU : AC := (.seq (.seq (.reg [] [jv 11 (.load (.ag [.s, .p]) (.t 3)), jm 12 1, jx 13 (.call (jf 27) [.t 11, .t 12]), jv 14 (.len (.t 13)), jm 15 2, jv 16 (.bin .gtr (.t 14) (.t 15))] []) zkH) zi6)
def A32 : AC := (.seq (.reg [.clr [3]] [jx 3 (.box (.t 0)), jv 6 (.mov (.k (.sl .nl .s 0 []))), jv 7 (.mov kf)] []) ziU)
def zrJ : List An := [⟨0, [.clr [3]], [], [], []⟩, ⟨2, [.clr [17]], [], [], [.home 17 6]⟩, ⟨9, [.clr [36, 38, 39]], [2, 5], [5, 1002], []⟩, ⟨12, [.clr [46]], [], [], [.home 46 6]⟩]
theorem c32 : cC Try.prog Try.f32.ntmps zrJ (Try.f32.body.getD .skip) = some A32 := by kernel_rfl
structure H32 (D : Den) (σ : Sig) (F : Nat) (rc : GR → LI → Int → Option (LI × Bool)) : Prop where
 c27 : C27 (D 27) F
 g27 : σ 27 = some (0, true)
 c53 : C53 (D 53) F
 g53 : σ 53 = some (0, false)
 c56o : zoh (D 1000000056) F
 g56o : σ 1000000056 = some (1, false)
 c32 : ∀ (x0 : GR) (x1 : LI) (x2 : Int) r, rc x0 x1 x2 = some r → D 32 [Enc.enc x0, Enc.enc x1, Enc.enc x2] = some (.tup [eL r.1, Enc.enc (r.2 : Bool)])
 g32 : σ 32 = some (0, true)
abbrev R32 (r : (LI × Bool)) : (Nat → V) → Prop := RR Try.prog [.tmp 6, .tmp 7] 0 true (.tup [eL r.1, Enc.enc (r.2 : Bool)])
section
variable {D : Den} {σ : Sig} {F : Nat} {rc : GR → LI → Int → Option (LI × Bool)} {r : (LI × Bool)}
def yU (F : Nat) (rc : GR → LI → Int → Option (LI × Bool)) (x_2 : LI) (x_3 : Int) (x_1 : GR)  : Nat → Int → Option (LI × Bool)
 | 0, _ => none
 | k + 1, x_9 =>
   bif decide (x_9 < x_1.1) then
    (uS F x_2 x_9).bind fun r_14 =>
    bif r_14 then
     (yU F rc x_2 x_3 x_1 k) (w64 (x_9 + 1))
    else
     (Zz F x_2).bind fun r_15 =>
     (wM r_15.list [x_9]).bind fun ap_16 =>
     (rc x_1 ap_16 x_3).bind fun r_17 =>
     bif r_17.2 then
      some (r_17.1, true)
     else
      (yU F rc x_2 x_3 x_1 k) (w64 (x_9 + 1))
   else
    some ([], false)
theorem zgG (H : H32 D σ F rc) (x_2 : LI) (x_3 : Int) (x_1 : GR)  : ∀ (k : Nat) (x_9 : Int) (s : Nat → V), zl [(1, eL x_2), (2, ji x_3), (3, bG 3 x_1), (6, nI), (7, jb false), (8, ji x_9)] s → yU F rc x_2 x_3 x_1 k x_9 = some r → Run D σ (R32 r) (.run zfw [.lp zfw, .bk 0, .sq zh7]) s := by
 intro k
 induction k with
 | zero => intro x_9 s _ h; exact nm h
 | succ k ih =>
   intro x_9 s hs h
   rw [yU] at h
   obtain ⟨h1, h2, h3, h6, h7, h8⟩ := hs
   refine .seq (.seq (rg (gm h8 fun h24 => g1 3 (.ref (.bx 3) 0 [0] (ji x_1.1)) h3 fun h25 => g1 25 (ji x_1.1) h25 fun h26 => g2 24 26 (jb (decide (x_9 < x_1.1))) h24 h26 fun h27 => gq (.nsq (zi (t := decide (x_9 < x_1.1)) h27 h (fun h => ?_) (fun h => ?_))))))
   · refine .skip (.nsq (.seq (.block (.seq (.seq (rg (gm h1 fun h30 => gm h8 fun h31 => ?_)))))))
     obtain ⟨r_14, E_r_14, h⟩ := bind_some h
     refine zB (m := 0) (al := false) (r := Enc.enc (r_14 : Bool)) [eL x_2, Enc.enc (x_9 : Int)] (zd (v := eL x_2) h30 rfl (Enc.erase_enc (x_2 : LI)) (zd (v := ji x_9) h31 rfl rfl zw)) (H.c53 _ _ _ E_r_14) H.g53 rfl rfl rfl rfl (gq (.nsq (zi (t := r_14) rfl h (fun h => ?_) (fun h => ?_))))
     · refine .exit (.esq (.ebk (.nsq (rg (gm h8 fun h28 => g1 28 (ji (w64 (x_9 + 1))) h28 fun h29 => gm h29 fun h8 => gq (.nlp ?_))))))
       exact ih (w64 (x_9 + 1)) _ ⟨h1, h2, h3, h6, h7, h8⟩ h
     refine .skip (.nsq (.seq (zt (zR ?_))))
     refine ez [(1, _), (2, _), (3, _), (6, _), (7, _), (8, _), (36, _), (38, _), (39, _)] ⟨za h1 rfl me, za h2 rfl mi, za h3 rfl (zh rfl mIE), za h6 rfl rfl, za h7 rfl mb, za h8 rfl mi, zb rfl, zb rfl, zb rfl⟩ ?_
     rintro s ⟨h1, h2, h3, h6, h7, h8, h36, h38, h39⟩
     refine g1 3 (gV x_1) h3 fun h34 => gm h1 fun h35 => ?_
     obtain ⟨r_15, E_r_15, h⟩ := bind_some h
     refine zeo (m := 1) (al := false) (r := zj .sh (r_15 : NL Int)) (o := (r_15 : NL Int)) (kk := 1000000056) [eL x_2] (zd (v := eL x_2) h35 rfl (Enc.erase_enc (x_2 : LI)) zw) (H.c56o _ _ E_r_15) H.g56o rfl vV Za h36 (gm h8 fun h37 => xf [(37, ji x_9)] [Enc.enc (x_9 : Int)] h37 rfl rfl h38 ?_)
     obtain ⟨ap_16, E_ap_16, h⟩ := bind_some h
     refine zhp (o := (r_15 : NL Int)) (ys := ([x_9] : LI)) (t2 := .at 38 []) (lo2 := 0) rfl rfl rfl h39 (by simp) E_ap_16 (fun s_11 hl_11 => gm (show s_11 2 = (ji x_3) from (hl_11 2 (by decide)).trans h2) fun h40 => ?_)
     obtain ⟨r_17, E_r_17, h⟩ := bind_some h
     refine zcU (rl := 39) (m := 0) (al := true) (r := .tup [eL r_17.1, Enc.enc (r_17.2 : Bool)]) [Enc.enc (x_1 : GR), eL ap_16, Enc.enc (x_3 : Int)] (by exact (zd (v := gV x_1) (show s_11 34 = (gV x_1) from (hl_11 34 (by decide)).trans h34) rfl (Enc.erase_enc (x_1 : GR)) (zeA (r := 39) (v := oI 39 [] (.of ap_16)) rfl (w3 (o := .of ap_16)) (zd (v := ji x_3) h40 rfl rfl zw)))) (H.c32 _ _ _ _ E_r_17) H.g32 (by exact (Zd (xk (v := gV x_1) (show s_11 34 = (gV x_1) from (hl_11 34 (by decide)).trans h34) rfl rfl (zfW (r := 39) (o := (.of ap_16 : NL Int)) rfl (xk (v := ji x_3) h40 rfl rfl uV))))) rfl rfl rfl ?_
     refine gm (rf (.tup [eL r_17.1, jb r_17.2])) fun h33 => g1 33 (eL r_17.1) h33 fun h42 => g1 33 (jb r_17.2) h33 fun h43 => gm h42 fun h9 => gm h43 fun h10 => gz [(1, _), (2, _), (3, _), (6, _), (7, _), (8, _), (9, _), (10, _)] ⟨(show s_11 1 = (eL x_2) from (hl_11 1 (by decide)).trans h1), (show s_11 2 = (ji x_3) from (hl_11 2 (by decide)).trans h2), (show s_11 3 = (bG 3 x_1) from (hl_11 3 (by decide)).trans h3), (show s_11 6 = nI from (hl_11 6 (by decide)).trans h6), (show s_11 7 = (jb false) from (hl_11 7 (by decide)).trans h7), (show s_11 8 = (ji x_9) from (hl_11 8 (by decide)).trans h8), h9, h10⟩ ?_
     rintro s ⟨h1, h2, h3, h6, h7, h8, h9, h10⟩
     refine .nsq (.seq (rg (gm h10 fun h44 => gq (.nsq (zi (t := r_17.2) h44 h (fun h => ?_) (fun h => ?_))))))
     · refine .seq (rg (gm h9 fun h45 => gm h45 fun h6 => g0 (jb true) fun h7 => gq (.nsq (.ret ?_))))
       have hr := Option.some.inj h
       subst hr
       exact rrB (zf h6) (zf h7) (xL (wo (zY (yO (x := (r_17.1 : LI))) (zY (yO (x := (true : Bool))) xv))))
     refine .skip (.nbk (.nsq (rg (gm h8 fun h28 => g1 28 (ji (w64 (x_9 + 1))) h28 fun h29 => gm h29 fun h8 => gq (.nlp ?_)))))
     exact ih (w64 (x_9 + 1)) _ ⟨h1, h2, h3, h6, h7, h8⟩ h
   refine .exit (.esq (.elp (.ebk (.nsq (.seq (zt (zR ?_)))))))
   refine ez [(6, _), (7, _), (46, _)] ⟨za h6 rfl rfl, za h7 rfl mb, zb rfl⟩ ?_
   rintro s ⟨h6, h7, h46⟩
   refine xf [] [] trivial rfl rfl h46 (gm (rf (oI 46 [] (.of []))) fun h6 => g0 (jb false) fun h7 => yE (yq (r := 46) (x := 6) (v := _) h6 rfl (fun s_13 hg_13 => ?_)))
   refine ez [(6, oI 6 [] (.of [])), (7, jb false)] ⟨hg_13 6 _ _ h6 (zm (r := 46) (p := []) rfl rfl), hg_13 7 _ _ h7 mb⟩ ?_
   rintro s ⟨h6, h7⟩
   refine .nsq (.ret ?_)
   have hr := Option.some.inj h
   subst hr
   exact rrB (zf h6) (zf h7) (xL (wo (zY (wz (o := .of [])) (zY (yO (x := (false : Bool))) xv))))
def xX (F : Nat) (rc : GR → LI → Int → Option (LI × Bool)) (x_1 : GR) (x_2 : LI) (x_3 : Int) : Option (LI × Bool) :=
 (xx F x_1 x_2).bind fun r_4 =>
 bif decide ((r_4.length : Int) > x_3) then
  some ([], false)
 else
  bif ((x_2.length : Int) == x_1.1) then
   some (x_2, true)
  else
   yU F rc x_2 x_3 x_1 F 0
theorem t32 (H : H32 D σ F rc) (x_1 : GR) (x_2 : LI) (x_3 : Int) (s : Nat → V) (hs : zl [(0, gV x_1), (1, eL x_2), (2, ji x_3)] s) (h : xX F rc x_1 x_2 x_3 = some r) : Run D σ (R32 r) (.run A32 []) s := by
 unfold xX at h
 obtain ⟨h0, h1, h2⟩ := hs
 refine .seq (zt (zR ?_))
 refine ez [(0, _), (1, _), (2, _), (3, _)] ⟨za h0 rfl mIE, za h1 rfl me, za h2 rfl mi, zb rfl⟩ ?_
 rintro s ⟨h0, h1, h2, h3⟩
 refine xB (gV x_1) (zy h0 rfl) h3 rfl (g0 nI fun h6 => g0 (jb false) fun h7 => gq (.nsq (.seq (.seq (rg (g1 3 (gV x_1) (rf (bG 3 x_1)) fun h11 => gm h1 fun h12 => ?_))))))
 obtain ⟨r_4, E_r_4, h⟩ := bind_some h
 refine zB (m := 0) (al := true) (r := eL r_4) [Enc.enc (x_1 : GR), eL x_2] (zd (v := gV x_1) h11 rfl (Enc.erase_enc (x_1 : GR)) (zd (v := eL x_2) h12 rfl (Enc.erase_enc (x_2 : LI)) zw)) (H.c27 _ _ _ E_r_4) H.g27 (Zd (xk (v := gV x_1) h11 rfl rfl (xk (v := eL x_2) h12 rfl rfl uV))) rfl rfl rfl (gv (ji (r_4.length : Int)) (yo (xs := r_4) rfl) fun h14 => gm h2 fun h15 => g2 14 15 (jb (decide ((r_4.length : Int) > x_3))) h14 h15 fun h16 => gq (.nsq (zi (t := decide ((r_4.length : Int) > x_3)) h16 h (fun h => ?_) (fun h => ?_))))
 · refine .seq (zt (zR ?_))
   refine ez [(1, _), (2, _), (3, _), (6, _), (7, _), (17, _)] ⟨za h1 rfl me, za h2 rfl mi, za rfl rfl (zh rfl mIE), za h6 rfl rfl, za h7 rfl mb, zb rfl⟩ ?_
   rintro s ⟨h1, h2, h3, h6, h7, h17⟩
   refine xf [] [] trivial rfl rfl h17 (gm (rf (oI 17 [] (.of []))) fun h6 => g0 (jb false) fun h7 => yE (yq (r := 17) (x := 6) (v := _) h6 rfl (fun s_5 hg_5 => ?_)))
   refine ez [(1, eL x_2), (2, ji x_3), (3, bG 3 x_1), (6, oI 6 [] (.of [])), (7, jb false)] ⟨hg_5 1 _ _ h1 me, hg_5 2 _ _ h2 mi, hg_5 3 _ _ h3 (zh rfl mIE), hg_5 6 _ _ h6 (zm (r := 17) (p := []) rfl rfl), hg_5 7 _ _ h7 mb⟩ ?_
   rintro s ⟨h1, h2, h3, h6, h7⟩
   refine .nsq (.ret ?_)
   have hr := Option.some.inj h
   subst hr
   exact rrB (zf h6) (zf h7) (xL (wo (zY (wz (o := .of [])) (zY (yO (x := (false : Bool))) xv))))
 refine .skip (.nsq (.seq (.seq (rg (gm h1 fun h18 => gv (ji (x_2.length : Int)) (yo (xs := x_2) h18) fun h19 => g1 3 (.ref (.bx 3) 0 [0] (ji x_1.1)) (rf (bG 3 x_1)) fun h20 => g1 20 (ji x_1.1) h20 fun h21 => g2 19 21 (jb ((x_2.length : Int) == x_1.1)) h19 h21 fun h22 => gq (.nsq (zi (t := ((x_2.length : Int) == x_1.1)) h22 h (fun h => ?_) (fun h => ?_))))))))
 · refine .seq (rg (gm h1 fun h23 => gm h23 fun h6 => g0 (jb true) fun h7 => gq (.nsq (.ret ?_))))
   have hr := Option.some.inj h
   subst hr
   exact rrB (zf h6) (zf h7) (xL (wo (zY (yO (x := (x_2 : LI))) (zY (yO (x := (true : Bool))) xv))))
 refine .skip (.nsq (.seq (.seq (rg (g0 (ji 0) fun h8 => gq (.nsq (.block (.loop ?_))))))))
 exact zgG H x_2 x_3 x_1 F 0 _ ⟨h1, h2, rfl, h6, h7, h8⟩ h
end
def yw (F : Nat) : Nat → GR → LI → Int → Option (LI × Bool)
 | 0, _, _, _ => none
 | k + 1, x0, x1, x2 => xX F (yw F k) x0 x1 x2
def Uf (F : Nat) (x0 : GR) (x1 : LI) (x2 : Int) : Option (LI × Bool) := yw F F x0 x1 x2
def e32 (F : Nat) (k : Nat) : Ent := ent 32 (fun (x : (GR × LI × Int × Unit)) => yw F k x.1 x.2.1 x.2.2.1) (fun (r : (LI × Bool)) => (.tup [eL r.1, Enc.enc (r.2 : Bool)])) 0 true []
theorem p32 {F : Nat} {k : Nat} {x0 : GR} {x1 : LI} {x2 : Int} {r : (LI × Bool)} (h : yw F k x0 x1 x2 = some r) : (e32 F k).den [Enc.enc x0, Enc.enc x1, Enc.enc x2] = some (.tup [eL r.1, Enc.enc (r.2 : Bool)]) := zJ (x0, x1, x2, ()) h
theorem z32 {F : Nat} : (e32 F 0).Ok Try.prog := by
 refine yd (f := 32) (show unk 32 = 32 from rfl) (fun args r h => ?_) ⟨Try.f32, Try.func32, rfl, rfl⟩
 obtain ⟨⟨x0, x1, x2, _⟩, y, rfl, hy, rfl⟩ := zH h
 cases hy
theorem o32 {D : Den} {σ : Sig} {F k : Nat} (hF : zu Try.prog D σ) (H : H32 D σ F (yw F k)) : (e32 F (k + 1)).Ok Try.prog := by
 refine yd (f := 32) (show unk 32 = 32 from rfl) (fun args r h => ?_) ⟨Try.f32, Try.func32, rfl, rfl⟩
 obtain ⟨⟨x0, x1, x2, _⟩, y, rfl, hy, rfl⟩ := zH h
 exact zk hF (by kernel_rfl) Try.func32 rfl c32 (show 3 ≤ Try.f32.ntmps by decide) (t32 H x0 x1 x2 _ ⟨rfl, rfl, rfl⟩ hy)
def znT : AC := (.cond (.t 6) (.seq (.reg [.clr [7]] [jx 7 (.lit i0 0 []), jm 2 7, jv 3 (.mov kf)] [.home 7 2]) .ret) .skip)
def zpd : AC := (.seq (.reg [.clr [9]] [jv 8 (.load (.ag [.s, .p]) (.t 1)), jy 9 (.lit i0 0 []), jv 10 (.load (.ag [.s, .p]) (.t 1)), jx 11 (.call (jf 29) [.t 10]), jx 12 (.call (jf 32) [.t 8, .t 9, .t 11]), jv 13 (.ext (.t 12) 0), jv 14 (.extS (.t 12) 1), jm 2 13, jm 3 14] []) .ret)
def zle : AC := (.seq (.seq (.reg [] [jv 4 (.load (.ag [.s, .p]) (.t 1)), jx 5 (.call (jf 25) [.t 4]), jv 6 (.un .not (.t 5))] []) znT) zpd)
def A14 : AC := (.seq (.reg [.clr [1]] [jx 1 (.box (.t 0)), jv 2 (.mov (.k (.sl .nl .s 0 []))), jv 3 (.mov kf)] []) zle)
def zrA : List An := [⟨0, [.clr [1]], [], [], []⟩, ⟨2, [.clr [7]], [], [], [.home 7 2]⟩, ⟨3, [.clr [9]], [1], [], []⟩]
theorem c14 : cC Try.prog Try.f14.ntmps zrA (Try.f14.body.getD .skip) = some A14 := by kernel_rfl
structure H14 (D : Den) (σ : Sig) (F : Nat) : Prop where
 c25 : C25 (D 25) F
 g25 : σ 25 = some (0, false)
 c29 : C29 (D 29) F
 g29 : σ 29 = some (0, false)
 c32 : ∀ (x0 : GR) (x1 : LI) (x2 : Int) r, Uf F x0 x1 x2 = some r → D 32 [Enc.enc x0, Enc.enc x1, Enc.enc x2] = some (.tup [eL r.1, Enc.enc (r.2 : Bool)])
 g32 : σ 32 = some (0, true)
abbrev R14 (r : (LI × Bool)) : (Nat → V) → Prop := RR Try.prog [.tmp 2, .tmp 3] 0 true (.tup [eL r.1, Enc.enc (r.2 : Bool)])
section
variable {D : Den} {σ : Sig} {F : Nat} {r : (LI × Bool)}
def x6 (F : Nat) (x_1 : GR) : Option (LI × Bool) :=
 (vf F x_1).bind fun r_2 =>
 bif (!r_2) then
  some ([], false)
 else
  (xl F x_1).bind fun r_3 =>
  (Uf F x_1 [] r_3).bind fun r_4 =>
  some (r_4.1, r_4.2)
theorem t14 (H : H14 D σ F) (x_1 : GR) (s : Nat → V) (hs : zl [(0, gV x_1)] s) (h : x6 F x_1 = some r) : Run D σ (R14 r) (.run A14 []) s := by
 unfold x6 at h
 have h0 := hs
 refine .seq (zt (zR ?_))
 refine ez [(0, _), (1, _)] ⟨za h0 rfl mIE, zb rfl⟩ ?_
 rintro s ⟨h0, h1⟩
 refine xB (gV x_1) (zy h0 rfl) h1 rfl (g0 nI fun h2 => g0 (jb false) fun h3 => gq (.nsq (.seq (.seq (rg (g1 1 (gV x_1) (rf (bG 1 x_1)) fun h4 => ?_))))))
 obtain ⟨r_2, E_r_2, h⟩ := bind_some h
 refine zB (m := 0) (al := false) (r := Enc.enc (r_2 : Bool)) [Enc.enc (x_1 : GR)] (zd (v := gV x_1) h4 rfl (Enc.erase_enc (x_1 : GR)) zw) (H.c25 _ _ E_r_2) H.g25 rfl rfl rfl rfl (g1 5 (jb (!r_2)) (rf (jb r_2)) fun h6 => gq (.nsq (zi (t := (!r_2)) h6 h (fun h => ?_) (fun h => ?_))))
 · refine .seq (zt (zR ?_))
   refine ez [(1, _), (2, _), (3, _), (7, _)] ⟨za rfl rfl (zh rfl mIE), za h2 rfl rfl, za h3 rfl mb, zb rfl⟩ ?_
   rintro s ⟨h1, h2, h3, h7⟩
   refine xf [] [] trivial rfl rfl h7 (gm (rf (oI 7 [] (.of []))) fun h2 => g0 (jb false) fun h3 => yE (yq (r := 7) (x := 2) (v := _) h2 rfl (fun s_5 hg_5 => ?_)))
   refine ez [(1, bG 1 x_1), (2, oI 2 [] (.of [])), (3, jb false)] ⟨hg_5 1 _ _ h1 (zh rfl mIE), hg_5 2 _ _ h2 (zm (r := 7) (p := []) rfl rfl), hg_5 3 _ _ h3 mb⟩ ?_
   rintro s ⟨h1, h2, h3⟩
   refine .nsq (.ret ?_)
   have hr := Option.some.inj h
   subst hr
   exact rrB (zf h2) (zf h3) (xL (wo (zY (wz (o := .of [])) (zY (yO (x := (false : Bool))) xv))))
 refine .skip (.nsq (.seq (zt (zR ?_))))
 refine ez [(1, _), (2, _), (3, _), (9, _)] ⟨za rfl rfl (zh rfl mIE), za h2 rfl rfl, za h3 rfl mb, zb rfl⟩ ?_
 rintro s ⟨h1, h2, h3, h9⟩
 refine g1 1 (gV x_1) h1 fun h8 => Kc [] [] trivial rfl rfl h9 (g1 1 (gV x_1) h1 fun h10 => ?_)
 obtain ⟨r_3, E_r_3, h⟩ := bind_some h
 refine zB (m := 0) (al := false) (r := Enc.enc (r_3 : Int)) [Enc.enc (x_1 : GR)] (zd (v := gV x_1) h10 rfl (Enc.erase_enc (x_1 : GR)) zw) (H.c29 _ _ E_r_3) H.g29 rfl rfl rfl rfl ?_
 obtain ⟨r_4, E_r_4, h⟩ := bind_some h
 refine zcU (rl := 9) (m := 0) (al := true) (r := .tup [eL r_4.1, Enc.enc (r_4.2 : Bool)]) [Enc.enc (x_1 : GR), Enc.enc ([] : LI), Enc.enc (r_3 : Int)] (by exact (zd (v := gV x_1) h8 rfl (Enc.erase_enc (x_1 : GR)) (zeA (r := 9) (v := oI 9 [] (.of [])) rfl (w3 (o := .of [])) (zd (v := ji r_3) rfl rfl rfl zw)))) (H.c32 _ _ _ _ E_r_4) H.g32 (by exact (Zd (xk (v := gV x_1) h8 rfl rfl (zfW (r := 9) (o := (.of [] : NL Int)) rfl (xk (v := ji r_3) rfl rfl rfl uV))))) rfl rfl rfl (g1 12 (eL r_4.1) (rf (.tup [eL r_4.1, jb r_4.2])) fun h13 => g1 12 (jb r_4.2) (rf (.tup [eL r_4.1, jb r_4.2])) fun h14 => ?_)
 refine gm h13 fun h2 => gm h14 fun h3 => gq (.nsq (.ret ?_))
 have hr := Option.some.inj h
 subst hr
 exact rrB (zf h2) (zf h3) (xL (wo (zY (yO (x := (r_4.1 : LI))) (zY (yO (x := (r_4.2 : Bool))) xv))))
end
def e14 (F : Nat) : Ent := ent 14 (fun (x : (GR × Unit)) => x6 F x.1) (fun (r : (LI × Bool)) => (.tup [eL r.1, Enc.enc (r.2 : Bool)])) 0 true []
abbrev C14 (D : List V → Option V) (F : Nat) : Prop := ∀ (x0 : GR) r, x6 F x0 = some r → D [Enc.enc x0] = some (.tup [eL r.1, Enc.enc (r.2 : Bool)])
theorem p14 {F : Nat} : C14 (e14 F).den F := fun x0 _ h => zJ (x0, ()) h
theorem o14 {D : Den} {σ : Sig} {F : Nat} (hF : zu Try.prog D σ) (H : H14 D σ F) : (e14 F).Ok Try.prog := by
 refine yd (f := 14) (show unk 14 = 14 from rfl) (fun args r h => ?_) ⟨Try.f14, Try.func14, rfl, rfl⟩
 obtain ⟨⟨x0, _⟩, y, rfl, hy, rfl⟩ := zH h
 exact zk hF (by kernel_rfl) Try.func14 rfl c14 (show 1 ≤ Try.f14.ntmps by decide) (t14 H x0 _ rfl hy)
def zkz : AC := (.seq (.reg [] [jm 48 0, jm 49 1, jv 50 (.bin .mul (.t 48) (.t 49)), jm 5 50] []) .ret)
def zkw : AC := (.seq (.reg [] [jm 40 7, jm 41 9, jv 42 (.bin .mul (.t 40) (.t 41)), jm 43 13, jv 44 (.bin .add (.t 42) (.t 43)), jm 45 12, jv 46 (.bin .shr (.t 45) (.k (.int .u64 (.ofNat 32)))), jv 47 (.bin .add (.t 44) (.t 46)), jm 4 47] []) zkz)
def zpM : AC := (.seq (.reg [] [jm 35 12, jm 36 6, jm 37 9, jv 38 (.bin .mul (.t 36) (.t 37)), jv 39 (.bin .add (.t 35) (.t 38)), jm 12 39] []) zkw)
def zlR : AC := (.seq (.reg [] [jm 33 11, jv 34 (.bin .shr (.t 33) (.k (.int .u64 (.ofNat 32)))), jm 13 34] []) zpM)
def zlU : AC := (.seq (.reg [] [jm 31 11, jv 32 (.bin .and (.t 31) (.k (.int .u64 (.ofNat 4294967295)))), jm 12 32] []) zlR)
def zlO : AC := (.seq (.reg [] [jm 25 7, jm 26 8, jv 27 (.bin .mul (.t 25) (.t 26)), jm 28 10, jv 29 (.bin .shr (.t 28) (.k (.int .u64 (.ofNat 32)))), jv 30 (.bin .add (.t 27) (.t 29)), jm 11 30] []) zlU)
def znC : AC := (.seq (.reg [] [jm 22 6, jm 23 8, jv 24 (.bin .mul (.t 22) (.t 23)), jm 10 24] []) zlO)
def zkY : AC := (.seq (.reg [] [jm 20 1, jv 21 (.bin .shr (.t 20) (.k (.int .u64 (.ofNat 32)))), jm 9 21] []) znC)
def zl1 : AC := (.seq (.reg [] [jm 18 1, jv 19 (.bin .and (.t 18) (.k (.int .u64 (.ofNat 4294967295)))), jm 8 19] []) zkY)
def zpb : AC := (.seq (.reg [] [jm 16 0, jv 17 (.bin .shr (.t 16) (.k (.int .u64 (.ofNat 32)))), jm 7 17] []) zl1)
def zla : AC := (.seq (.reg [] [jm 14 0, jv 15 (.bin .and (.t 14) (.k (.int .u64 (.ofNat 4294967295)))), jm 6 15] []) zpb)
def A70 : AC := (.seq (.reg [] [jv 4 (.mov (.k (.int .u64 (.ofNat 0)))), jv 5 (.mov (.k (.int .u64 (.ofNat 0))))] []) zla)
def zqR : List An := []
theorem c70 : cC Try.prog Try.f70.ntmps zqR (Try.f70.body.getD .skip) = some A70 := by kernel_rfl
structure H70 (D : Den) (σ : Sig) (F : Nat) : Prop where
 mk ::
abbrev R70 (r : ((Kd .u64) × (Kd .u64))) : (Nat → V) → Prop := RR Try.prog [.tmp 4, .tmp 5] 0 false (.tup [Enc.enc (r.1 : (Kd .u64)), Enc.enc (r.2 : (Kd .u64))])
section
variable {D : Den} {σ : Sig} {F : Nat} {r : ((Kd .u64) × (Kd .u64))}
def YD (F : Nat) (x_1 : (Kd .u64)) (x_2 : (Kd .u64)) : Option ((Kd .u64) × (Kd .u64)) :=
 (Z6 .u64 x_1.v 32).bind fun q_3 =>
 (Z6 .u64 x_2.v 32).bind fun q_4 =>
 (Z6 .u64 (IntKind.u64.wrap ((z6 .u64 x_1.v 4294967295) * (z6 .u64 x_2.v 4294967295))) 32).bind fun q_5 =>
 (Z6 .u64 (IntKind.u64.wrap ((IntKind.u64.wrap (q_3 * (z6 .u64 x_2.v 4294967295))) + q_5)) 32).bind fun q_6 =>
 (Z6 .u64 (IntKind.u64.wrap ((z6 .u64 (IntKind.u64.wrap ((IntKind.u64.wrap (q_3 * (z6 .u64 x_2.v 4294967295))) + q_5)) 4294967295) + (IntKind.u64.wrap ((z6 .u64 x_1.v 4294967295) * q_4)))) 32).bind fun q_7 =>
 some ((Kd.mk (IntKind.u64.wrap ((IntKind.u64.wrap ((IntKind.u64.wrap (q_3 * q_4)) + q_6)) + q_7)) : Kd .u64), (Kd.mk (IntKind.u64.wrap (x_1.v * x_2.v)) : Kd .u64))
theorem t70 (H : H70 D σ F) (x_1 : (Kd .u64)) (x_2 : (Kd .u64)) (s : Nat → V) (hs : zl [(0, .int .u64 x_1.v), (1, .int .u64 x_2.v)] s) (h : YD F x_1 x_2 = some r) : Run D σ (R70 r) (.run A70 []) s := by
 unfold YD at h
 obtain ⟨h0, h1⟩ := hs
 refine .seq (rg (g0 (.int .u64 0) fun h4 => g0 (.int .u64 0) fun h5 => gq (.nsq (.seq (rg (gm h0 fun h14 => g1 14 (.int .u64 (z6 .u64 x_1.v 4294967295)) h14 fun h15 => gm h15 fun h6 => gq (.nsq (.seq (rg (gm h0 fun h16 => ?_))))))))))
 obtain ⟨q_3, E_q_3, h⟩ := bind_some h
 refine gv (.int .u64 q_3) (ua h16 rfl E_q_3) fun h17 => gm h17 fun h7 => gq (.nsq (.seq (rg (gm h1 fun h18 => g1 18 (.int .u64 (z6 .u64 x_2.v 4294967295)) h18 fun h19 => gm h19 fun h8 => gq (.nsq (.seq (rg (gm h1 fun h20 => ?_))))))))
 obtain ⟨q_4, E_q_4, h⟩ := bind_some h
 refine gv (.int .u64 q_4) (ua h20 rfl E_q_4) fun h21 => gm h21 fun h9 => gq (.nsq (.seq (rg (gm h6 fun h22 => gm h8 fun h23 => g2 22 23 (.int .u64 (IntKind.u64.wrap ((z6 .u64 x_1.v 4294967295) * (z6 .u64 x_2.v 4294967295)))) h22 h23 fun h24 => gm h24 fun h10 => gq (.nsq (.seq (rg (gm h7 fun h25 => gm h8 fun h26 => g2 25 26 (.int .u64 (IntKind.u64.wrap (q_3 * (z6 .u64 x_2.v 4294967295)))) h25 h26 fun h27 => gm h10 fun h28 => ?_))))))))
 obtain ⟨q_5, E_q_5, h⟩ := bind_some h
 refine gv (.int .u64 q_5) (ua h28 rfl E_q_5) fun h29 => g2 27 29 (.int .u64 (IntKind.u64.wrap ((IntKind.u64.wrap (q_3 * (z6 .u64 x_2.v 4294967295))) + q_5))) h27 h29 fun h30 => gm h30 fun h11 => gq (.nsq (.seq (rg (gm h11 fun h31 => g1 31 (.int .u64 (z6 .u64 (IntKind.u64.wrap ((IntKind.u64.wrap (q_3 * (z6 .u64 x_2.v 4294967295))) + q_5)) 4294967295)) h31 fun h32 => gm h32 fun h12 => gq (.nsq (.seq (rg (gm h11 fun h33 => ?_))))))))
 obtain ⟨q_6, E_q_6, h⟩ := bind_some h
 refine gv (.int .u64 q_6) (ua h33 rfl E_q_6) fun h34 => gm h34 fun h13 => gz [(0, _), (1, _), (4, _), (5, _), (6, _), (7, _), (9, _), (12, _), (13, _)] ⟨h0, h1, h4, h5, h6, h7, h9, h12, h13⟩ ?_
 rintro s ⟨h0, h1, h4, h5, h6, h7, h9, h12, h13⟩
 refine .nsq (.seq (rg (gm h12 fun h35 => gm h6 fun h36 => gm h9 fun h37 => g2 36 37 (.int .u64 (IntKind.u64.wrap ((z6 .u64 x_1.v 4294967295) * q_4))) h36 h37 fun h38 => g2 35 38 (.int .u64 (IntKind.u64.wrap ((z6 .u64 (IntKind.u64.wrap ((IntKind.u64.wrap (q_3 * (z6 .u64 x_2.v 4294967295))) + q_5)) 4294967295) + (IntKind.u64.wrap ((z6 .u64 x_1.v 4294967295) * q_4))))) h35 h38 fun h39 => gm h39 fun h12 => gq (.nsq (.seq (rg (gm h7 fun h40 => gm h9 fun h41 => g2 40 41 (.int .u64 (IntKind.u64.wrap (q_3 * q_4))) h40 h41 fun h42 => gm h13 fun h43 => g2 42 43 (.int .u64 (IntKind.u64.wrap ((IntKind.u64.wrap (q_3 * q_4)) + q_6))) h42 h43 fun h44 => gm h12 fun h45 => ?_)))))))
 obtain ⟨q_7, E_q_7, h⟩ := bind_some h
 refine gv (.int .u64 q_7) (ua h45 rfl E_q_7) fun h46 => g2 44 46 (.int .u64 (IntKind.u64.wrap ((IntKind.u64.wrap ((IntKind.u64.wrap (q_3 * q_4)) + q_6)) + q_7))) h44 h46 fun h47 => gm h47 fun h4 => gq (.nsq (.seq (rg (gm h0 fun h48 => gm h1 fun h49 => g2 48 49 (.int .u64 (IntKind.u64.wrap (x_1.v * x_2.v))) h48 h49 fun h50 => gm h50 fun h5 => gq (.nsq (.ret ?_))))))
 have hr := Option.some.inj h
 subst hr
 exact rrB (zf h4) (zf h5) rfl
end
def e70 (F : Nat) : Ent := ent 70 (fun (x : ((Kd .u64) × (Kd .u64) × Unit)) => YD F x.1 x.2.1) (fun (r : ((Kd .u64) × (Kd .u64))) => (.tup [Enc.enc (r.1 : (Kd .u64)), Enc.enc (r.2 : (Kd .u64))])) 0 false []
abbrev C70 (D : List V → Option V) (F : Nat) : Prop := ∀ (x0 : (Kd .u64)) (x1 : (Kd .u64)) r, YD F x0 x1 = some r → D [Enc.enc x0, Enc.enc x1] = some (.tup [Enc.enc (r.1 : (Kd .u64)), Enc.enc (r.2 : (Kd .u64))])
theorem p70 {F : Nat} : C70 (e70 F).den F := fun x0 x1 _ h => zJ (x0, x1, ()) h
theorem o70 {D : Den} {σ : Sig} {F : Nat} (hF : zu Try.prog D σ) (H : H70 D σ F) : (e70 F).Ok Try.prog := by
 refine yd (f := 70) (show unk 70 = 70 from rfl) (fun args r h => ?_) ⟨Try.f70, Try.func70, rfl, rfl⟩
 obtain ⟨⟨x0, x1, _⟩, y, rfl, hy, rfl⟩ := zH h
 exact zk hF (by kernel_rfl) Try.func70 rfl c70 (show 2 ≤ Try.f70.ntmps by decide) (t70 H x0 x1 _ ⟨rfl, rfl⟩ hy)
def zlJ : AC := (.seq (.reg [] [jm 18 6, jv 19 (.conv .u64 (.t 18)), jm 20 7, jv 21 (.conv .u64 (.t 20)), jm 4 19, jm 5 21] []) .ret)
def zof : AC := (.seq (.reg [] [jm 28 8, jm 29 9, jm 4 28, jm 5 29] []) .ret)
def zmt : AC := (.seq (.reg [] [jm 23 0, jm 24 1, jx 25 (.call (jf 70) [.t 23, .t 24]), jm 22 25, jv 26 (.extS (.t 22) 0), jv 27 (.extS (.t 22) 1), jm 8 26, jm 9 27] []) zof)
def znb : AC := (.seq (.cond kf (.seq (.reg [] [jm 11 0, jv 12 (.conv .u32 (.t 11)), jm 13 1, jv 14 (.conv .u32 (.t 13)), jx 15 (.call (jf 69) [.t 12, .t 14]), jm 10 15, jv 16 (.extS (.t 10) 0), jv 17 (.extS (.t 10) 1), jm 6 16, jm 7 17] []) zlJ) .skip) zmt)
def A57 : AC := (.seq (.reg [] [jv 4 (.mov (.k (.int .u64 (.ofNat 0)))), jv 5 (.mov (.k (.int .u64 (.ofNat 0))))] []) znb)
def zqs : List An := []
theorem c57 : cC Try.prog Try.f57.ntmps zqs (Try.f57.body.getD .skip) = some A57 := by kernel_rfl
structure H57 (D : Den) (σ : Sig) (F : Nat) : Prop where
 c70 : C70 (D 70) F
 g70 : σ 70 = some (0, false)
abbrev R57 (r : ((Kd .u64) × (Kd .u64))) : (Nat → V) → Prop := RR Try.prog [.tmp 4, .tmp 5] 0 false (.tup [Enc.enc (r.1 : (Kd .u64)), Enc.enc (r.2 : (Kd .u64))])
section
variable {D : Den} {σ : Sig} {F : Nat} {r : ((Kd .u64) × (Kd .u64))}
def Wk (F : Nat) (x_1 : (Kd .u64)) (x_2 : (Kd .u64)) : Option ((Kd .u64) × (Kd .u64)) :=
 (YD F (Kd.mk x_1.v : Kd .u64) (Kd.mk x_2.v : Kd .u64)).bind fun r_3 =>
 some ((Kd.mk r_3.1.v : Kd .u64), (Kd.mk r_3.2.v : Kd .u64))
theorem t57 (H : H57 D σ F) (x_1 : (Kd .u64)) (x_2 : (Kd .u64)) (s : Nat → V) (hs : zl [(0, .int .u64 x_1.v), (1, .int .u64 x_2.v)] s) (h : Wk F x_1 x_2 = some r) : Run D σ (R57 r) (.run A57 []) s := by
 unfold Wk at h
 obtain ⟨h0, h1⟩ := hs
 refine .seq (rg (g0 (.int .u64 0) fun h4 => g0 (.int .u64 0) fun h5 => gq (.nsq (.seq (LS rfl (.skip (.nsq (.seq (rg (gm h0 fun h23 => gm h1 fun h24 => ?_))))))))))
 obtain ⟨r_3, E_r_3, h⟩ := bind_some h
 refine zB (m := 0) (al := false) (r := .tup [Enc.enc (r_3.1 : (Kd .u64)), Enc.enc (r_3.2 : (Kd .u64))]) [Enc.enc ((Kd.mk x_1.v : Kd .u64) : (Kd .u64)), Enc.enc ((Kd.mk x_2.v : Kd .u64) : (Kd .u64))] (zd (v := .int .u64 x_1.v) h23 rfl rfl (zd (v := .int .u64 x_2.v) h24 rfl rfl zw)) (H.c70 _ _ _ E_r_3) H.g70 rfl rfl rfl rfl (gm (rf (.tup [.int .u64 r_3.1.v, .int .u64 r_3.2.v])) fun h22 => g1 22 (.int .u64 r_3.1.v) h22 fun h26 => g1 22 (.int .u64 r_3.2.v) h22 fun h27 => gm h26 fun h8 => gm h27 fun h9 => gq (.nsq (.seq (rg (gm h8 fun h28 => gm h9 fun h29 => gm h28 fun h4 => gm h29 fun h5 => gq (.nsq (.ret ?_)))))))
 have hr := Option.some.inj h
 subst hr
 exact rrB (zf h4) (zf h5) rfl
end
def e57 (F : Nat) : Ent := ent 57 (fun (x : ((Kd .u64) × (Kd .u64) × Unit)) => Wk F x.1 x.2.1) (fun (r : ((Kd .u64) × (Kd .u64))) => (.tup [Enc.enc (r.1 : (Kd .u64)), Enc.enc (r.2 : (Kd .u64))])) 0 false []
abbrev C57 (D : List V → Option V) (F : Nat) : Prop := ∀ (x0 : (Kd .u64)) (x1 : (Kd .u64)) r, Wk F x0 x1 = some r → D [Enc.enc x0, Enc.enc x1] = some (.tup [Enc.enc (r.1 : (Kd .u64)), Enc.enc (r.2 : (Kd .u64))])
theorem p57 {F : Nat} : C57 (e57 F).den F := fun x0 x1 _ h => zJ (x0, x1, ()) h
theorem o57 {D : Den} {σ : Sig} {F : Nat} (hF : zu Try.prog D σ) (H : H57 D σ F) : (e57 F).Ok Try.prog := by
 refine yd (f := 57) (show unk 57 = 57 from rfl) (fun args r h => ?_) ⟨Try.f57, Try.func57, rfl, rfl⟩
 obtain ⟨⟨x0, x1, _⟩, y, rfl, hy, rfl⟩ := zH h
 exact zk hF (by kernel_rfl) Try.func57 rfl c57 (show 2 ≤ Try.f57.ntmps by decide) (t57 H x0 x1 _ ⟨rfl, rfl⟩ hy)
def zks : AC := (.cond (.t 37) .skip (.exit 0))
def zjZ : AC := (.block 1 (.reg [] [jm 38 8, jm 39 7, jm 40 8, jv 41 (.slice (.t 39) (some (.t 40)) none 1), jm 42 7, jm 43 8, jv 44 (.slice (.t 42) none (some (.t 43)) 1), jx 45 (.copy (.t 41) (.t 44)), jv 46 (.bin .add (.t 38) (.t 45)), jm 8 46] []))
def za9 : AC := (.seq (.seq (.reg [] [jm 34 8, jm 35 7, jv 36 (.len (.t 35)), jv 37 (.bin .lss (.t 34) (.t 36))] []) zks) zjZ)
def zf7 : AC := (.seq (.reg [] [jm 47 7, jm 4 47] [.home 7 4]) .ret)
def ze4 : AC := (.cond (.t 26) (.reg [] [jz (.v (.un .not (.k .dead)))] []) .skip)
def zi8 : AC := (.seq (.block 0 (.loop za9)) zf7)
def zjm : AC := (.seq (.reg [] [jm 31 7, jm 32 0, jx 33 (.copy (.t 31) (.t 32)), jm 8 33] []) zi8)
def zeg : AC := (.seq (.reg [.clr [30]] [jm 28 6, jv 29 (.conv .i64 (.t 28)), jx 30 (.mk (.t 29) i0 i0), jm 7 30] [.home 30 7]) zjm)
def zgR : AC := (.cond (.t 10) (.reg [] [jz (.v (.un .not (.k .dead)))] []) .skip)
def zgV : AC := (.seq (.seq (.reg [] [jm 21 5, jv 22 (.bin .gtr (.t 21) (.k (.int .u64 (.ofNat 0)))), jm 23 22, jg 24 23 false (.mov (.t 6)), jg 25 23 false (.bin .gtr (.t 24) (.k (.int .u64 (.ofNat 9223372036854775807)))), jv 26 (.pick (.t 23) kt (.t 25))] []) ze4) zeg)
def zhn : AC := (.seq (.reg [] [jm 13 0, jv 14 (.len (.t 13)), jv 15 (.conv .u64 (.t 14)), jm 16 1, jv 17 (.conv .u64 (.t 16)), jx 18 (.call (jf 57) [.t 15, .t 17]), jm 12 18, jv 19 (.extS (.t 12) 0), jv 20 (.extS (.t 12) 1), jm 5 19, jm 6 20] []) zgV)
def zjz : AC := (.seq (.seq (.reg [] [jm 9 1, jv 10 (.bin .lss (.t 9) (jn 0))] []) zgR) zhn)
def zlW : AC := (.seq (.reg [] [jv 4 (.mov (.k (.sl .nl .s 0 [])))] []) zjz)
def zlT : List An := [⟨6, [.clr [30]], [], [], [.home 30 7]⟩, ⟨10, [], [], [], [.home 7 4]⟩]
theorem c33o : cC Try.prog Try.f33.ntmps zlT (Try.f33.body.getD .skip) = some zlW := by kernel_rfl
structure zhV (D : Den) (σ : Sig) (F : Nat) : Prop where
 c57 : C57 (D 57) F
 g57 : σ 57 = some (0, false)
abbrev zjx (r : (NL Int)) : (Nat → V) → Prop := RR Try.prog [.tmp 4] 1 false (zj .sh (r : NL Int))
section
variable {D : Den} {σ : Sig} {F : Nat} {r : (NL Int)}
def w7 (F : Nat)   : Nat → LI → Int → Option (NL Int)
 | 0, _, _ => none
 | k + 1, x_8, x_9 =>
   bif decide (x_9 < (x_8.length : Int)) then
    (sub x_8 x_9 (x_8.length : Int)).bind fun sub_12 =>
    (sub x_8 0 x_9).bind fun sub_13 =>
    (w7 F k) (zam x_8 (Int.toNat x_9) (sub_13.take sub_12.length)) (w64 (x_9 + ((min sub_13.length sub_12.length : Nat) : Int)))
   else
    some (.of x_8)
theorem zdY (H : zhV D σ F)   : ∀ (k : Nat) (x_8 : LI) (x_9 : Int) (s : Nat → V), zl [(4, nI), (7, oI 7 [] (.of x_8)), (8, ji x_9)] s → w7 F k x_8 x_9 = some r → Run D σ (zjx r) (.run za9 [.lp za9, .bk 0, .sq zf7]) s := by
 intro k
 induction k with
 | zero => intro x_8 x_9 s _ h; exact nm h
 | succ k ih =>
   intro x_8 x_9 s hs h
   rw [w7] at h
   obtain ⟨h4, h7, h8⟩ := hs
   refine .seq (.seq (rg (gm h8 fun h34 => gm h7 fun h35 => gv (ji (x_8.length : Int)) (Kg (o := .of x_8) h35) fun h36 => g2 34 36 (jb (decide (x_9 < (x_8.length : Int)))) h34 h36 fun h37 => gq (.nsq (zi (t := decide (x_9 < (x_8.length : Int))) h37 h (fun h => ?_) (fun h => ?_))))))
   · refine .skip (.nsq (.block (rg (gm h8 fun h38 => gm h7 fun h39 => gm h8 fun h40 => ?_))))
     obtain ⟨sub_12, E_sub_12, h⟩ := bind_some h
     refine gv (.sl (.at 7 []) (Enc.shp Int) (Int.toNat x_9) ((sub_12 : LI).map Enc.enc)) (WN (xs := x_8) h39 (v5 h40) (vM) E_sub_12 rfl) fun h41 => gm h7 fun h42 => gm h8 fun h43 => ?_
     obtain ⟨sub_13, E_sub_13, h⟩ := bind_some h
     refine gv (.sl (.at 7 []) (Enc.shp Int) (Int.toNat 0) ((sub_13 : LI).map Enc.enc)) (WN (xs := x_8) h42 (vM) (v5 h43) E_sub_13 rfl) fun h44 => zfC (r := 7) (p := []) (lo := Int.toNat x_9) (t2 := .at 7 []) (lo2 := Int.toNat 0) sub_12 sub_13 h41 h44 (g2 38 45 (ji (w64 (x_9 + ((min sub_13.length sub_12.length : Nat) : Int)))) (WM _ _ _ h38 (fun _ _ => rfl)) (rf (ji ((min sub_13.length sub_12.length : Nat) : Int))) fun h46 => ?_)
     refine gm h46 fun h8 => gz [(4, nI), (7, oI 7 [] (.of (zam x_8 (Int.toNat x_9) (sub_13.take sub_12.length)))), (8, _)] ⟨WM _ _ _ h4 (fun _ _ => rfl), XC (sub_13.take sub_12.length) (Int.toNat x_9) _ ((.of x_8) : NL Int) h7, h8⟩ ?_
     rintro s ⟨h4, h7, h8⟩
     refine .nbk (.nlp ?_)
     exact ih (zam x_8 (Int.toNat x_9) (sub_13.take sub_12.length)) (w64 (x_9 + ((min sub_13.length sub_12.length : Nat) : Int))) _ ⟨h4, h7, h8⟩ h
   refine .exit (.esq (.elp (.ebk (.nsq (.seq (rg (gm h7 fun h47 => gm h47 fun h4 => yE (yq (r := 7) (x := 4) (v := _) h4 rfl (fun s_3 hg_3 => ?_)))))))))
   refine ez [(4, oI 4 [] (.of x_8))] (hg_3 4 _ _ h4 (zm (r := 7) (p := []) rfl rfl)) ?_
   rintro s h4
   refine .nsq (.ret ?_)
   have hr := Option.some.inj h
   subst hr
   exact rrA (zf h4) (Xj (Xc (o := ((.of x_8) : NL Int))) rfl (wn rfl))
def w6 (F : Nat) (x_1 : LI) (r_3 : ((Kd .u64) × (Kd .u64)))  (x_4 : Bool) : Option (NL Int) :=
 bif x_4 then
  none
 else
  (mkN (w64 r_3.2.v) (0 : Int)).bind fun mk_5 =>
  w7 F F (zam mk_5 0 (x_1.take mk_5.length)) ((min x_1.length mk_5.length : Nat) : Int)
theorem MA (H : zhV D σ F) (x_1 : LI) (r_3 : ((Kd .u64) × (Kd .u64)))  (x_4 : Bool) (s : Nat → V) (hs : zl [(0, eL x_1), (4, nI), (6, .int .u64 r_3.2.v), (26, jb x_4)] s) (h : w6 F x_1 r_3  x_4 = some r) : Run D σ (zjx r) (.nrm [.sq ze4, .sq zeg]) s := by
 unfold w6 at h
 obtain ⟨h0, h4, h6, h26⟩ := hs
 refine .nsq (zi (t := x_4) h26 h (fun h => ?_) (fun h => ?_))
 · cases h
 refine .skip (.nsq (.seq (zt (zR ?_))))
 refine ez [(0, _), (4, _), (6, _), (30, _)] ⟨za h0 rfl me, za h4 rfl rfl, za h6 rfl mi, zb rfl⟩ ?_
 rintro s ⟨h0, h4, h6, h30⟩
 refine gm h6 fun h28 => g1 28 (ji (w64 r_3.2.v)) h28 fun h29 => ?_
 obtain ⟨mk_5, E_mk_5, h⟩ := bind_some h
 refine zhD (0 : Int) h29 rfl h30 E_mk_5 (gm (rf (oI 30 [] (.of mk_5))) fun h7 => yE (yq (r := 30) (x := 7) (v := _) h7 rfl (fun s_2 hg_2 => ?_)))
 refine ez [(0, eL x_1), (4, nI), (7, oI 7 [] (.of mk_5))] ⟨hg_2 0 _ _ h0 me, hg_2 4 _ _ h4 rfl, hg_2 7 _ _ h7 (zm (r := 30) (p := []) rfl rfl)⟩ ?_
 rintro s ⟨h0, h4, h7⟩
 refine .nsq (.seq (rg (gm h7 fun h31 => gm h0 fun h32 => zfC (r := 7) (p := []) (lo := 0) (t2 := .sh) (lo2 := 0) mk_5 x_1 h31 h32 (gm (rf (ji ((min x_1.length mk_5.length : Nat) : Int))) fun h8 => gz [(4, nI), (7, oI 7 [] (.of (zam mk_5 0 (x_1.take mk_5.length)))), (8, _)] ⟨WM _ _ _ h4 (fun _ _ => rfl), XC (x_1.take mk_5.length) 0 _ ((.of mk_5) : NL Int) h7, h8⟩ ?_))))
 rintro s ⟨h4, h7, h8⟩
 refine .nsq (.seq (.block (.loop ?_)))
 exact zdY H F (zam mk_5 0 (x_1.take mk_5.length)) ((min x_1.length mk_5.length : Nat) : Int) _ ⟨h4, h7, h8⟩ h
def xU (F : Nat) (x_1 : LI) (x_2 : Int) : Option (NL Int) :=
 bif decide (x_2 < 0) then
  none
 else
  (Wk F (Kd.mk (IntKind.u64.wrap (x_1.length : Int)) : Kd .u64) (Kd.mk (IntKind.u64.wrap x_2) : Kd .u64)).bind fun r_3 =>
  bif decide (r_3.1.v > 0) then
   w6 F x_1 r_3 true
  else
   w6 F x_1 r_3 (decide (r_3.2.v > 9223372036854775807))
theorem zrw (H : zhV D σ F) (x_1 : LI) (x_2 : Int) (s : Nat → V) (hs : zl [(0, eL x_1), (1, ji x_2)] s) (h : xU F x_1 x_2 = some r) : Run D σ (zjx r) (.run zlW []) s := by
 unfold xU at h
 obtain ⟨h0, h1⟩ := hs
 refine .seq (rg (g0 nI fun h4 => gq (.nsq (.seq (.seq (rg (gm h1 fun h9 => g1 9 (jb (decide (x_2 < 0))) h9 fun h10 => gq (.nsq (zi (t := decide (x_2 < 0)) h10 h (fun h => ?_) (fun h => ?_))))))))))
 · cases h
 refine .skip (.nsq (.seq (rg (gm h0 fun h13 => gv (ji (x_1.length : Int)) (yo (xs := x_1) h13) fun h14 => g1 14 (.int .u64 (IntKind.u64.wrap (x_1.length : Int))) h14 fun h15 => gm h1 fun h16 => g1 16 (.int .u64 (IntKind.u64.wrap x_2)) h16 fun h17 => ?_))))
 obtain ⟨r_3, E_r_3, h⟩ := bind_some h
 refine zB (m := 0) (al := false) (r := .tup [Enc.enc (r_3.1 : (Kd .u64)), Enc.enc (r_3.2 : (Kd .u64))]) [Enc.enc ((Kd.mk (IntKind.u64.wrap (x_1.length : Int)) : Kd .u64) : (Kd .u64)), Enc.enc ((Kd.mk (IntKind.u64.wrap x_2) : Kd .u64) : (Kd .u64))] (zd (v := .int .u64 (IntKind.u64.wrap (x_1.length : Int))) h15 rfl rfl (zd (v := .int .u64 (IntKind.u64.wrap x_2)) h17 rfl rfl zw)) (H.c57 _ _ _ E_r_3) H.g57 rfl rfl rfl rfl (gm (rf (.tup [.int .u64 r_3.1.v, .int .u64 r_3.2.v])) fun h12 => g1 12 (.int .u64 r_3.1.v) h12 fun h19 => g1 12 (.int .u64 r_3.2.v) h12 fun h20 => ?_)
 refine gm h19 fun h5 => gm h20 fun h6 => gq (.nsq (.seq (.seq (rg (gm h5 fun h21 => g1 21 (jb (decide (r_3.1.v > 0))) h21 fun h22 => gm h22 fun h23 => zP (c := decide (r_3.1.v > 0)) h (fun hg3 h => ?_) (fun hg3 h => ?_))))))
 · iterate 2 refine ym (ct h23 hg3) ?_
   refine g2 23 25 (jb true) (ct h23 hg3) (rf (.tup [])) fun h26 => gq ?_
   exact MA H x_1 r_3 true _ ⟨h0, h4, h6, h26⟩ h
 refine zg (ct h23 hg3) (gm h6 fun h24 => zg (ct h23 hg3) (g1 24 (jb (decide (r_3.2.v > 9223372036854775807))) h24 fun h25 => g2 23 25 (jb (decide (r_3.2.v > 9223372036854775807))) (ct h23 hg3) h25 fun h26 => gq ?_))
 exact MA H x_1 r_3 (decide (r_3.2.v > 9223372036854775807)) _ ⟨h0, h4, h6, h26⟩ h
end
def zj1 (F : Nat) : Ent := ent 1000000033 (fun (x : (LI × Int × Unit)) => xU F x.1 x.2.1) (fun (r : (NL Int)) => (zj .sh (r : NL Int))) 1 false []
abbrev zm7 (D : List V → Option V) (F : Nat) : Prop := ∀ (x0 : LI) (x1 : Int) r, xU F x0 x1 = some r → D [Enc.enc x0, Enc.enc x1] = some (zj .sh (r : NL Int))
theorem zry {F : Nat} : zm7 (zj1 F).den F := fun x0 x1 _ h => zJ (x0, x1, ()) h
theorem zqZ {D : Den} {σ : Sig} {F : Nat} (hF : zu Try.prog D σ) (H : zhV D σ F) : (zj1 F).Ok Try.prog := by
 refine yd (f := 33) (show unk 1000000033 = 33 from rfl) (fun args r h => ?_) ⟨Try.f33, Try.func33, rfl, rfl⟩
 obtain ⟨⟨x0, x1, _⟩, y, rfl, hy, rfl⟩ := zH h
 exact zk hF (by kernel_rfl) Try.func33 rfl c33o (show 2 ≤ Try.f33.ntmps by decide) (zrw H x0 x1 _ ⟨rfl, rfl⟩ hy)
def zot : AC := (.cond (.t 15) .skip (.exit 0))
def zlP : AC := (.reg [] [jm 16 4, jv 17 (.bin .add (.t 16) (jn 1)), jm 4 17] [])
def zl6 : AC := (.seq (.block 1 (.reg [] [jm 18 3, jm 19 0, jm 20 4, jv 21 (.idx (.t 19) (.t 20) 1), jv 22 (.load .s (.t 21)), jv 23 (.mx [.t 18, .t 22]), jm 3 23] [])) zlP)
def zgp : AC := (.seq (.seq (.reg [] [jm 12 4, jm 13 0, jv 14 (.len (.t 13)), jv 15 (.bin .lss (.t 12) (.t 14))] []) zot) zl6)
def zii : AC := (.seq (.reg [] [jm 24 3, jm 2 24] []) .ret)
def zn3 : AC := (.cond (.t 7) (.reg [] [jz (.v (.un .not (.k .dead)))] []) .skip)
def zjL : AC := (.block 0 (.loop zgp))
def zmS : AC := (.seq (.seq (.reg [] [jv 4 (.mov (jn 1))] []) zjL) zii)
def zn7 : AC := (.seq (.reg [] [jm 9 0, jv 10 (.idx (.t 9) (jn 0) 1), jv 11 (.load .s (.t 10)), jm 3 11] []) zmS)
def zkL : AC := (.seq (.seq (.reg [] [jm 5 0, jv 6 (.len (.t 5)), jv 7 (.bin .lss (.t 6) (jn 1))] []) zn3) zn7)
def A37 : AC := (.seq (.reg [] [jv 2 (.mov (jn 0))] []) zkL)
def zq7 : List An := []
theorem c37 : cC Try.prog Try.f37.ntmps zq7 (Try.f37.body.getD .skip) = some A37 := by kernel_rfl
structure H37 (D : Den) (σ : Sig) (F : Nat) : Prop where
 mk ::
abbrev R37 (r : Int) : (Nat → V) → Prop := RR Try.prog [.tmp 2] 0 false (Enc.enc (r : Int))
section
variable {D : Den} {σ : Sig} {F : Nat} {r : Int}
def wG (F : Nat) (x_1 : LI)  : Nat → Int → Int → Option Int
 | 0, _, _ => none
 | k + 1, m_4, x_5 =>
   bif decide (x_5 < (x_1.length : Int)) then
    (idx x_1 x_5).bind fun e_7 =>
    (wG F x_1 k) (if e_7 > m_4 then e_7 else m_4) (w64 (x_5 + 1))
   else
    some m_4
theorem zfO (H : H37 D σ F) (x_1 : LI)  : ∀ (k : Nat) (m_4 : Int) (x_5 : Int) (s : Nat → V), zl [(0, eL x_1), (2, ji 0), (3, ji m_4), (4, ji x_5)] s → wG F x_1 k m_4 x_5 = some r → Run D σ (R37 r) (.run zgp [.lp zgp, .bk 0, .sq zii]) s := by
 intro k
 induction k with
 | zero => intro m_4 x_5 s _ h; exact nm h
 | succ k ih =>
   intro m_4 x_5 s hs h
   rw [wG] at h
   obtain ⟨h0, h2, h3, h4⟩ := hs
   refine .seq (.seq (rg (gm h4 fun h12 => gm h0 fun h13 => gv (ji (x_1.length : Int)) (yo (xs := x_1) h13) fun h14 => g2 12 14 (jb (decide (x_5 < (x_1.length : Int)))) h12 h14 fun h15 => gq (.nsq (zi (t := decide (x_5 < (x_1.length : Int))) h15 h (fun h => ?_) (fun h => ?_))))))
   · refine .skip (.nsq (.seq (.block (rg (gm h3 fun h18 => gm h0 fun h19 => gm h4 fun h20 => ?_)))))
     obtain ⟨e_7, E_e_7, h⟩ := bind_some h
     refine gv (.ref .sh 0 [] (ji e_7)) (yu (t := .sh) (lo := 0) (xs := x_1) h19 h20 E_e_7 rfl rfl) fun h21 => g1 21 (ji e_7) h21 fun h22 => g2 18 22 (ji (if e_7 > m_4 then e_7 else m_4)) h18 h22 fun h23 => gm h23 fun h3 => gq (.nbk (.nsq (rg (gm h4 fun h16 => g1 16 (ji (w64 (x_5 + 1))) h16 fun h17 => gm h17 fun h4 => gq (.nlp ?_)))))
     exact ih (if e_7 > m_4 then e_7 else m_4) (w64 (x_5 + 1)) _ ⟨h0, h2, h3, h4⟩ h
   refine .exit (.esq (.elp (.ebk (.nsq (.seq (rg (gm h3 fun h24 => gm h24 fun h2 => gq (.nsq (.ret ?_)))))))))
   have hr := Option.some.inj h
   subst hr
   exact rrA (zf h2) rfl
def uw (F : Nat) (x_1 : LI) : Option Int :=
 bif decide ((x_1.length : Int) < 1) then
  none
 else
  (idx x_1 0).bind fun e_2 =>
  wG F x_1 F e_2 1
theorem t37 (H : H37 D σ F) (x_1 : LI) (s : Nat → V) (hs : zl [(0, eL x_1)] s) (h : uw F x_1 = some r) : Run D σ (R37 r) (.run A37 []) s := by
 unfold uw at h
 have h0 := hs
 refine .seq (rg (g0 (ji 0) fun h2 => gq (.nsq (.seq (.seq (rg (gm h0 fun h5 => gv (ji (x_1.length : Int)) (yo (xs := x_1) h5) fun h6 => g1 6 (jb (decide ((x_1.length : Int) < 1))) h6 fun h7 => gq (.nsq (zi (t := decide ((x_1.length : Int) < 1)) h7 h (fun h => ?_) (fun h => ?_))))))))))
 · cases h
 refine .skip (.nsq (.seq (rg (gm h0 fun h9 => ?_))))
 obtain ⟨e_2, E_e_2, h⟩ := bind_some h
 refine gv (.ref .sh 0 [] (ji e_2)) (yu (t := .sh) (lo := 0) (xs := x_1) h9 rfl E_e_2 rfl rfl) fun h10 => g1 10 (ji e_2) h10 fun h11 => gm h11 fun h3 => gq (.nsq (.seq (.seq (rg (g0 (ji 1) fun h4 => gq (.nsq (.block (.loop ?_))))))))
 exact zfO H x_1 F e_2 1 _ ⟨h0, h2, h3, h4⟩ h
end
def e37 (F : Nat) : Ent := ent 37 (fun (x : (LI × Unit)) => uw F x.1) (fun (r : Int) => (Enc.enc (r : Int))) 0 false []
abbrev C37 (D : List V → Option V) (F : Nat) : Prop := ∀ (x0 : LI) r, uw F x0 = some r → D [Enc.enc x0] = some (Enc.enc (r : Int))
theorem p37 {F : Nat} : C37 (e37 F).den F := fun x0 _ h => zJ (x0, ()) h
theorem o37 {D : Den} {σ : Sig} {F : Nat} (hF : zu Try.prog D σ) (H : H37 D σ F) : (e37 F).Ok Try.prog := by
 refine yd (f := 37) (show unk 37 = 37 from rfl) (fun args r h => ?_) ⟨Try.f37, Try.func37, rfl, rfl⟩
 obtain ⟨⟨x0, _⟩, y, rfl, hy, rfl⟩ := zH h
 exact zk hF (by kernel_rfl) Try.func37 rfl c37 (show 1 ≤ Try.f37.ntmps by decide) (t37 H x0 _ rfl hy)
end Go.Zq
