/- Functions of the program as typed functions, and that the machine runs as they say (part 4). No further condition. -/
import Derived.Test.YtkmhlpopclahcaaK4
import Derived.Test.YtkmhlpopclahcaaProg
import Derived.Test.YtkmhlpopclahcaaChecked
import Derived.KernelRfl
import Derived.Test.YtkmhlpopclahcaaG3
set_option linter.unusedVariables false
set_option linter.unusedSimpArgs false
namespace Go.Zq
open Go.Proofs
def zph : AC := (.reg [] [jm 27 5, jm 28 7, jm 29 5, jm 30 7, jv 31 (.idx (.t 29) (.t 30) 1), jv 32 (.load .s (.t 31)), jv 33 (.load (.ag [.p]) (.t 4)), jm 34 6, jx 35 (.call (jf 36) [.t 33, .t 34]), jv 36 (.conv .u64 (.t 35)), jx 37 (.call (jf 35) [.t 36]), jv 38 (.mn [.t 32, .t 37]), jv 39 (.idx (.t 27) (.t 28) 1), jz (.store .s (.t 39) (.t 38))] [])
def znG : AC := (.seq (.reg [] [jm 24 6, jv 25 (.conv .u64 (.t 24)), jx 26 (.call (jf 35) [.t 25]), jm 7 26] []) zph)
def zk3 : AC := (.reg [] [jv 40 (.bin .add (.t 21) (jn 1)), jm 21 40] [])
def zlX : AC := (.seq (.block 1 (.seq (.reg [] [jm 23 21, jm 6 23] []) znG)) zk3)
def zmA : AC := (.seq (.cond (.t 22) .skip (.exit 0)) zlX)
def zeU : AC := (.seq (.reg [] [jv 22 (.bin .lss (.t 21) (.t 20))] []) zmA)
def zin : AC := (.seq (.reg [] [jm 41 5, jx 42 (.call (jf 37) [.t 41]), jm 2 42, jv 3 (.mov kt)] []) .ret)
def zpg : AC := (.cond (.t 10) (.seq (.reg [] [jv 2 (.mov (jn 0)), jv 3 (.mov kf)] []) .ret) .skip)
def zkf : AC := (.block 0 (.loop zeU))
def zj8 : AC := (.seq (.seq (.reg [] [jv 18 (.load (.ag [.p]) (.t 4)), jx 19 (.call (jf 34) [.t 18]), jv 20 (.bin .add (.t 19) (jn 1)), jv 21 (.mov (jn 0))] []) zkf) zin)
def zj6 : AC := (.seq (.reg [.clr [13, 17]] [jx 13 (.lit i0 1 [(0, 0, jn 8)]), jv 14 (.fld (.t 1) 0 0), jv 15 (.load .s (.t 14)), jv 16 (.bin .add (.t 15) (jn 1)), jx 17 (.callO (jf 33) [.t 13, .t 16]), jm 5 17] [.home 17 5]) zj8)
def zjS : AC := (.seq (.reg [.clr [4]] [jv 11 (.load (.ag [.s, .p]) (.t 1)), jx 12 (.call (jf 23) [.t 11]), jx 4 (.alloc (.agg [.sl .nl .s 0 []])), jz (.store (.ag [.p]) (.t 4) (.t 12))] []) zj6)
def zpR : AC := (.seq (.seq (.reg [] [jv 8 (.load (.ag [.s, .p]) (.t 1)), jx 9 (.call (jf 21) [.t 8]), jv 10 (.un .not (.t 9))] []) zpg) zjS)
def A15 : AC := (.seq (.reg [.clr [1]] [jx 1 (.box (.t 0)), jv 2 (.mov (jn 0)), jv 3 (.mov kf)] []) zpR)
def zp1 : List An := [⟨0, [.clr [1]], [], [], []⟩, ⟨3, [.clr [4]], [], [], []⟩, ⟨4, [.clr [13, 17]], [], [1004], [.home 17 5]⟩]
theorem c15 : cC Try.prog Try.f15.ntmps zp1 (Try.f15.body.getD .skip) = some A15 := by kernel_rfl
structure H15 (D : Den) (σ : Sig) (F : Nat) : Prop where
 c21 : C21 (D 21) F
 g21 : σ 21 = some (0, false)
 c23 : C23 (D 23) F
 g23 : σ 23 = some (0, false)
 c33o : zm7 (D 1000000033) F
 g33o : σ 1000000033 = some (1, false)
 c34 : C34 (D 34) F
 g34 : σ 34 = some (0, false)
 c35 : C35 (D 35) F
 g35 : σ 35 = some (0, false)
 c36 : C36 (D 36) F
 g36 : σ 36 = some (0, false)
 c37 : C37 (D 37) F
 g37 : σ 37 = some (0, false)
abbrev R15 (r : (Int × Bool)) : (Nat → V) → Prop := RR Try.prog [.tmp 2, .tmp 3] 0 false (.tup [Enc.enc (r.1 : Int), Enc.enc (r.2 : Bool)])
section
variable {D : Den} {σ : Sig} {F : Nat} {r : (Int × Bool)}
def xD (F : Nat) (r_3 : (S1 LI)) (r_5 : Int)  : Nat → (NL Int) → Int → Option (Int × Bool)
 | 0, _, _ => none
 | k + 1, x_11, x_12 =>
   bif decide (x_12 < (w64 (r_5 + 1))) then
    (xt F (Kd.mk (IntKind.u64.wrap x_12) : Kd .u64)).bind fun r_18 =>
    (idx x_11.list r_18).bind fun e_19 =>
    (x9 F r_3 x_12).bind fun r_20 =>
    (xt F (Kd.mk (IntKind.u64.wrap r_20) : Kd .u64)).bind fun r_21 =>
    (idx x_11.list r_18).bind fun e_22 =>
    (xD F r_3 r_5 k) (NL.set x_11 r_18.toNat (if r_21 < e_19 then r_21 else e_19)) (w64 (x_12 + 1))
   else
    (uw F x_11.list).bind fun r_23 =>
    some (r_23, true)
theorem zeI (H : H15 D σ F) (r_3 : (S1 LI)) (r_5 : Int)  : ∀ (k : Nat) (x_11 : (NL Int)) (x_12 : Int) (s : Nat → V), zl [(2, ji 0), (3, jb false), (4, .ref (.bx 4) 0 [] (.agg [eL r_3.a])), (5, oI 5 [] x_11), (20, ji (w64 (r_5 + 1))), (21, ji x_12)] s → xD F r_3 r_5 k x_11 x_12 = some r → Run D σ (R15 r) (.run zeU [.lp zeU, .bk 0, .sq zin]) s := by
 intro k
 induction k with
 | zero => intro x_11 x_12 s _ h; exact nm h
 | succ k ih =>
   intro x_11 x_12 s hs h
   rw [xD] at h
   obtain ⟨h2, h3, h4, h5, h20, h21⟩ := hs
   refine .seq (rg (g2 21 20 (jb (decide (x_12 < (w64 (r_5 + 1))))) h21 h20 fun h22 => gq (.nsq (.seq (zi (t := decide (x_12 < (w64 (r_5 + 1)))) h22 h (fun h => ?_) (fun h => ?_))))))
   · refine .skip (.nsq (.seq (.block (.seq (rg (gm h21 fun h23 => gm h23 fun h6 => gq (.nsq (.seq (rg (gm h6 fun h24 => g1 24 (.int .u64 (IntKind.u64.wrap x_12)) h24 fun h25 => ?_))))))))))
     obtain ⟨r_18, E_r_18, h⟩ := bind_some h
     refine zB (m := 0) (al := false) (r := Enc.enc (r_18 : Int)) [Enc.enc ((Kd.mk (IntKind.u64.wrap x_12) : Kd .u64) : (Kd .u64))] (zd (v := .int .u64 (IntKind.u64.wrap x_12)) h25 rfl rfl zw) (H.c35 _ _ E_r_18) H.g35 rfl rfl rfl rfl (gm (rf (ji r_18)) fun h7 => gq (.nsq (rg (gv (oI 5 [] x_11) (Yl h5 vW) fun h27 => gm h7 fun h28 => gv (oI 5 [] x_11) (Yl h5 vW) fun h29 => gm h7 fun h30 => ?_))))
     obtain ⟨e_19, E_e_19, h⟩ := bind_some h
     refine gv (.ref (.at 5 []) r_18.toNat [] (ji e_19)) (vo (o := x_11) h29 h30 E_e_19 rfl) fun h31 => g1 31 (ji e_19) h31 fun h32 => g1 4 (.agg [eL r_3.a]) h4 fun h33 => gm h6 fun h34 => ?_
     obtain ⟨r_20, E_r_20, h⟩ := bind_some h
     refine zB (m := 0) (al := false) (r := Enc.enc (r_20 : Int)) [Enc.enc (r_3 : (S1 LI)), Enc.enc (x_12 : Int)] (zd (v := .agg [eL r_3.a]) h33 rfl (Enc.erase_enc (r_3 : (S1 LI))) (zd (v := ji x_12) h34 rfl rfl zw)) (H.c36 _ _ _ E_r_20) H.g36 rfl rfl rfl rfl (g1 35 (.int .u64 (IntKind.u64.wrap r_20)) (rf (ji r_20)) fun h36 => ?_)
     obtain ⟨r_21, E_r_21, h⟩ := bind_some h
     refine zB (m := 0) (al := false) (r := Enc.enc (r_21 : Int)) [Enc.enc ((Kd.mk (IntKind.u64.wrap r_20) : Kd .u64) : (Kd .u64))] (zd (v := .int .u64 (IntKind.u64.wrap r_20)) h36 rfl rfl zw) (H.c35 _ _ E_r_21) H.g35 rfl rfl rfl rfl (g2 32 37 (ji (if r_21 < e_19 then r_21 else e_19)) h32 (rf (ji r_21)) fun h38 => ?_)
     obtain ⟨e_22, E_e_22, h⟩ := bind_some h
     refine gv (.ref (.at 5 []) r_18.toNat [] (ji e_22)) (vo (o := x_11) h27 h28 E_e_22 rfl) fun h39 => z7 (ji (if r_21 < e_19 then r_21 else e_19)) (zy h39 rfl) (zy h38 rfl) (xR (by first | rfl | simp [V.toks, V.tokss, Enc.toks_enc, z4])) (gz [(2, ji 0), (3, jb false), (4, .ref (.bx 4) 0 [] (.agg [eL r_3.a])), (5, _), (20, ji (w64 (r_5 + 1))), (21, ji x_12)] ⟨zc h2 rfl, zc h3 rfl, zc h4 (zD rfl rfl (yp (zq uE rfl))), zc h5 (Lo (α := Int) (u := (if r_21 < e_19 then r_21 else e_19)) (i := r_18.toNat) (o := x_11)), zc h20 rfl, zc h21 rfl⟩ ?_)
     rintro s ⟨h2, h3, h4, h5, h20, h21⟩
     refine .nbk (.nsq (rg (g1 21 (ji (w64 (x_12 + 1))) h21 fun h40 => gm h40 fun h21 => gq (.nlp ?_))))
     exact ih (NL.set x_11 r_18.toNat (if r_21 < e_19 then r_21 else e_19)) (w64 (x_12 + 1)) _ ⟨h2, h3, h4, h5, h20, h21⟩ h
   refine .exit (.esq (.elp (.ebk (.nsq (.seq (rg (gv (oI 5 [] x_11) (Yl h5 vW) fun h41 => ?_)))))))
   obtain ⟨r_23, E_r_23, h⟩ := bind_some h
   refine zB (m := 0) (al := false) (r := Enc.enc (r_23 : Int)) [eL x_11.list] (zd (v := oI 5 [] x_11) h41 um (w3 (o := x_11)) zw) (H.c37 _ _ E_r_23) H.g37 rfl rfl rfl rfl (gm (rf (ji r_23)) fun h2 => g0 (jb true) fun h3 => gq (.nsq (.ret ?_)))
   have hr := Option.some.inj h
   subst hr
   exact rrB (zf h2) (zf h3) rfl
def w5 (F : Nat) (x_1 : GR) : Option (Int × Bool) :=
 (xP F x_1).bind fun r_2 =>
 bif (!r_2) then
  some (0, false)
 else
  (vp F x_1).bind fun r_3 =>
  (xU F [8] (w64 (x_1.1 + 1))).bind fun r_4 =>
  (y8 F r_3).bind fun r_5 =>
  xD F r_3 r_5 F r_4 0
theorem t15 (H : H15 D σ F) (x_1 : GR) (s : Nat → V) (hs : zl [(0, gV x_1)] s) (h : w5 F x_1 = some r) : Run D σ (R15 r) (.run A15 []) s := by
 unfold w5 at h
 have h0 := hs
 refine .seq (zt (zR ?_))
 refine ez [(0, _), (1, _)] ⟨za h0 rfl mIE, zb rfl⟩ ?_
 rintro s ⟨h0, h1⟩
 refine xB (gV x_1) (zy h0 rfl) h1 rfl (g0 (ji 0) fun h2 => g0 (jb false) fun h3 => gq (.nsq (.seq (.seq (rg (g1 1 (gV x_1) (rf (bG 1 x_1)) fun h8 => ?_))))))
 obtain ⟨r_2, E_r_2, h⟩ := bind_some h
 refine zB (m := 0) (al := false) (r := Enc.enc (r_2 : Bool)) [Enc.enc (x_1 : GR)] (zd (v := gV x_1) h8 rfl (Enc.erase_enc (x_1 : GR)) zw) (H.c21 _ _ E_r_2) H.g21 rfl rfl rfl rfl (g1 9 (jb (!r_2)) (rf (jb r_2)) fun h10 => gq (.nsq (zi (t := (!r_2)) h10 h (fun h => ?_) (fun h => ?_))))
 · refine .seq (rg (g0 (ji 0) fun h2 => g0 (jb false) fun h3 => gq (.nsq (.ret ?_))))
   have hr := Option.some.inj h
   subst hr
   exact rrB (zf h2) (zf h3) rfl
 refine .skip (.nsq (.seq (zt (zR ?_))))
 refine ez [(1, _), (2, _), (3, _), (4, _)] ⟨za rfl rfl (zh rfl mIE), za h2 rfl mi, za h3 rfl mb, zb rfl⟩ ?_
 rintro s ⟨h1, h2, h3, h4⟩
 refine g1 1 (gV x_1) h1 fun h11 => ?_
 obtain ⟨r_3, E_r_3, h⟩ := bind_some h
 refine zB (m := 0) (al := false) (r := Enc.enc (r_3 : (S1 LI))) [Enc.enc (x_1 : GR)] (zd (v := gV x_1) h11 rfl (Enc.erase_enc (x_1 : GR)) zw) (H.c23 _ _ E_r_3) H.g23 rfl rfl rfl rfl (xp h4 (z7 (.agg [eL r_3.a]) (zy rfl rfl) (zy rfl rfl) (xR (by first | rfl | simp [V.toks, V.tokss, Enc.toks_enc, z4])) (gz [(1, bG 1 x_1), (2, ji 0), (3, jb false), (4, .ref (.bx 4) 0 [] (.agg [eL r_3.a]))] ⟨zc h1 (zD rfl rfl uIE), zc h2 rfl, zc h3 rfl, zc rfl rfl⟩ ?_)))
 rintro s ⟨h1, h2, h3, h4⟩
 refine .nsq (.seq (zt (zR ?_)))
 refine ez [(1, _), (2, _), (3, _), (4, _), (13, _), (17, _)] ⟨za h1 rfl (zh rfl mIE), za h2 rfl mi, za h3 rfl mb, za h4 rfl (zh rfl (zF (ze me zn))), zb rfl, zb rfl⟩ ?_
 rintro s ⟨h1, h2, h3, h4, h13, h17⟩
 refine xf [] [Enc.enc (8 : Int)] trivial rfl rfl h13 (g1 1 (.ref (.bx 1) 0 [0] (ji x_1.1)) h1 fun h14 => g1 14 (ji x_1.1) h14 fun h15 => g1 15 (ji (w64 (x_1.1 + 1))) h15 fun h16 => ?_)
 obtain ⟨r_4, E_r_4, h⟩ := bind_some h
 refine YG (m := 1) (al := false) (r := zj .sh (r_4 : NL Int)) (v := oI 17 [] r_4) (kk := 1000000033) [Enc.enc ([8] : LI), Enc.enc (w64 (x_1.1 + 1) : Int)] (zd (v := oI 13 [] (.of [8])) rfl rfl (w3 (o := .of [8])) (zd (v := ji (w64 (x_1.1 + 1))) h16 rfl rfl zw)) (H.c33o _ _ _ E_r_4) H.g33o rfl vV Za um h17 (gv (oI 17 [] r_4) (Yl rfl vW) fun h5 => yE (yq (r := 17) (x := 5) (v := _) h5 vW (fun s_4 hg_4 => ?_)))
 refine ez [(2, ji 0), (3, jb false), (4, .ref (.bx 4) 0 [] (.agg [eL r_3.a])), (5, oI 5 [] r_4)] ⟨hg_4 2 _ _ h2 mi, hg_4 3 _ _ h3 mb, hg_4 4 _ _ h4 (zh rfl (zF (ze me zn))), hg_4 5 _ _ h5 (zm (r := 17) (p := []) rfl rfl)⟩ ?_
 rintro s ⟨h2, h3, h4, h5⟩
 refine .nsq (.seq (.seq (rg (g1 4 (.agg [eL r_3.a]) h4 fun h18 => ?_))))
 obtain ⟨r_5, E_r_5, h⟩ := bind_some h
 refine zB (m := 0) (al := false) (r := Enc.enc (r_5 : Int)) [Enc.enc (r_3 : (S1 LI))] (zd (v := .agg [eL r_3.a]) h18 rfl (Enc.erase_enc (r_3 : (S1 LI))) zw) (H.c34 _ _ E_r_5) H.g34 rfl rfl rfl rfl (g1 19 (ji (w64 (r_5 + 1))) (rf (ji r_5)) fun h20 => g0 (ji 0) fun h21 => gq (.nsq (.block (.loop ?_))))
 exact zeI H r_3 r_5 F r_4 0 _ ⟨h2, h3, h4, h5, h20, h21⟩ h
end
def e15 (F : Nat) : Ent := ent 15 (fun (x : (GR × Unit)) => w5 F x.1) (fun (r : (Int × Bool)) => (.tup [Enc.enc (r.1 : Int), Enc.enc (r.2 : Bool)])) 0 false []
abbrev C15 (D : List V → Option V) (F : Nat) : Prop := ∀ (x0 : GR) r, w5 F x0 = some r → D [Enc.enc x0] = some (.tup [Enc.enc (r.1 : Int), Enc.enc (r.2 : Bool)])
theorem p15 {F : Nat} : C15 (e15 F).den F := fun x0 _ h => zJ (x0, ()) h
theorem o15 {D : Den} {σ : Sig} {F : Nat} (hF : zu Try.prog D σ) (H : H15 D σ F) : (e15 F).Ok Try.prog := by
 refine yd (f := 15) (show unk 15 = 15 from rfl) (fun args r h => ?_) ⟨Try.f15, Try.func15, rfl, rfl⟩
 obtain ⟨⟨x0, _⟩, y, rfl, hy, rfl⟩ := zH h
 exact zk hF (by kernel_rfl) Try.func15 rfl c15 (show 1 ≤ Try.f15.ntmps by decide) (t15 H x0 _ rfl hy)
def znJ : AC := (.cond (.t 16) .skip (.exit 0))
def zlr : AC := (.cond (.t 23) .skip (.exit 2))
def zkc : AC := (.cond (.t 33) (.exit 3) .skip)
def zeX : AC := (.cond (.t 44) (.reg [] [jm 45 9, jm 6 45] []) .skip)
def zjy : AC := (.seq (.reg [] [jm 38 6, jv 39 (.bin .lss (.t 38) (jn 0)), jm 40 39, jg 41 40 false (.mov (.t 9)), jg 42 40 false (.mov (.t 6)), jg 43 40 false (.bin .lss (.t 41) (.t 42)), jv 44 (.pick (.t 40) kt (.t 43))] []) zeX)
def zjO : AC := (.seq (.reg [] [jv 34 (.load (.ag [.s, .p]) (.t 1)), jm 35 8, jx 36 (.call (jf 27) [.t 34, .t 35]), jv 37 (.len (.t 36)), jm 9 37] []) zjy)
def znR : AC := (.seq (.seq (.reg [] [jm 30 8, jv 31 (.len (.t 30)), jm 32 5, jv 33 (.bin .neq (.t 31) (.t 32))] []) zkc) zjO)
def zbk : AC := (.reg [] [jm 24 7, jv 25 (.bin .add (.t 24) (jn 1)), jm 7 25] [])
def zkS : AC := (.seq (.block 3 (.seq (.reg [] [jv 26 (.fld (.t 1) 0 0), jv 27 (.load .s (.t 26)), jm 28 7, jx 29 (.call (jf 38) [.t 27, .t 28]), jm 8 29] []) znR)) zbk)
def Ur : AC := (.seq (.seq (.reg [] [jm 19 7, jv 20 (.fld (.t 1) 0 0), jv 21 (.load .s (.t 20)), jv 22 (.bin .shl (jn 1) (.t 21)), jv 23 (.bin .lss (.t 19) (.t 22))] []) zlr) zkS)
def zpz : AC := (.block 2 (.loop Ur))
def U6 : AC := (.reg [] [jm 46 4, jm 47 6, jx 48 (.call (jf 39) [.t 46, .t 47]), jm 4 48] [])
def zmP : AC := (.seq (.seq (.reg [] [jv 7 (.mov (jn 0))] []) zpz) U6)
def UZ : AC := (.reg [] [jm 17 5, jv 18 (.bin .add (.t 17) (jn 1)), jm 5 18] [])
def znu : AC := (.seq (.block 1 (.seq (.reg [] [jv 6 (.mov (jn (-1)))] []) zmP)) UZ)
def YH : AC := (.seq (.seq (.reg [] [jm 13 5, jv 14 (.fld (.t 1) 0 0), jv 15 (.load .s (.t 14)), jv 16 (.bin .leq (.t 13) (.t 15))] []) znJ) znu)
def Y0 : AC := (.seq (.reg [] [jm 49 4, jm 2 49, jv 3 (.mov kt)] []) .ret)
def zjr : AC := (.cond (.t 12) (.seq (.reg [] [jv 2 (.mov (jn 0)), jv 3 (.mov kf)] []) .ret) .skip)
def zi2 : AC := (.block 0 (.loop YH))
def zjN : AC := (.seq (.seq (.reg [] [jv 5 (.mov (jn 0))] []) zi2) Y0)
def zjQ : AC := (.seq (.reg [] [jv 4 (.mov (jn 0))] []) zjN)
def zjW : AC := (.seq (.seq (.reg [] [jv 10 (.load (.ag [.s, .p]) (.t 1)), jx 11 (.call (jf 25) [.t 10]), jv 12 (.un .not (.t 11))] []) zjr) zjQ)
def A16 : AC := (.seq (.reg [.clr [1]] [jx 1 (.box (.t 0)), jv 2 (.mov (jn 0)), jv 3 (.mov kf)] []) zjW)
def zqM : List An := [⟨0, [.clr [1]], [], [], []⟩]
theorem c16 : cC Try.prog Try.f16.ntmps zqM (Try.f16.body.getD .skip) = some A16 := by kernel_rfl
structure H16 (D : Den) (σ : Sig) (F : Nat) : Prop where
 c25 : C25 (D 25) F
 g25 : σ 25 = some (0, false)
 c38 : C38 (D 38) F
 g38 : σ 38 = some (0, false)
 c27 : C27 (D 27) F
 g27 : σ 27 = some (0, true)
 c39 : C39 (D 39) F
 g39 : σ 39 = some (0, false)
abbrev R16 (r : (Int × Bool)) : (Nat → V) → Prop := RR Try.prog [.tmp 2, .tmp 3] 0 false (.tup [Enc.enc (r.1 : Int), Enc.enc (r.2 : Bool)])
section
variable {D : Den} {σ : Sig} {F : Nat} {r : (Int × Bool)}
def vc (F : Nat) (x_1 : GR) (x_21 : Int) (m_22 : Int) (x_47 : Int) (c1 : Int → Int → Option (Int × Bool)) (c4 : Int → Int → Option (Int × Bool)) (x_57 : Int) : Option (Int × Bool) :=
 c4 x_57 (w64 (x_47 + 1))
theorem Q0 (H : H16 D σ F) (x_1 : GR) (x_21 : Int) (m_22 : Int) (x_47 : Int) (c1 : Int → Int → Option (Int × Bool)) (Hc1 : ∀ (x_21 : Int) (m_22 : Int) (s : Nat → V), zl [(1, bG 1 x_1), (2, ji 0), (3, jb false), (4, ji x_21), (5, ji m_22)] s → c1 x_21 m_22 = some r → Run D σ (R16 r) (.run YH [.lp YH, .bk 0, .sq Y0]) s) (c4 : Int → Int → Option (Int × Bool)) (Hc4 : ∀ (x_46 : Int) (x_47 : Int) (s : Nat → V), zl [(1, bG 1 x_1), (2, ji 0), (3, jb false), (4, ji x_21), (5, ji m_22), (6, ji x_46), (7, ji x_47)] s → c4 x_46 x_47 = some r → Run D σ (R16 r) (.run Ur [.lp Ur, .bk 2, .sq U6, .bk 1, .sq UZ, .lp YH, .bk 0, .sq Y0]) s) (x_57 : Int) (s : Nat → V) (hs : zl [(1, bG 1 x_1), (2, ji 0), (3, jb false), (4, ji x_21), (5, ji m_22), (6, ji x_57), (7, ji x_47)] s) (h : vc F x_1 x_21 m_22 x_47 c1 c4 x_57 = some r) : Run D σ (R16 r) (.nrm [.bk 3, .sq zbk, .lp Ur, .bk 2, .sq U6, .bk 1, .sq UZ, .lp YH, .bk 0, .sq Y0]) s := by
 unfold vc at h
 obtain ⟨h1, h2, h3, h4, h5, h6, h7⟩ := hs
 refine .nbk (.nsq (rg (gm h7 fun h24 => g1 24 (ji (w64 (x_47 + 1))) h24 fun h25 => gm h25 fun h7 => gq (.nlp ?_))))
 exact Hc4 x_57 (w64 (x_47 + 1)) _ ⟨h1, h2, h3, h4, h5, h6, h7⟩ h
def vi (F : Nat) (x_1 : GR) (x_21 : Int) (m_22 : Int) (x_46 : Int) (x_47 : Int) (r_55 : LI) (c1 : Int → Int → Option (Int × Bool)) (c4 : Int → Int → Option (Int × Bool)) (x_56 : Bool) : Option (Int × Bool) :=
 bif x_56 then
  vc F x_1 x_21 m_22 x_47 c1 c4 (r_55.length : Int)
 else
  vc F x_1 x_21 m_22 x_47 c1 c4 x_46
theorem zay (H : H16 D σ F) (x_1 : GR) (x_21 : Int) (m_22 : Int) (x_46 : Int) (x_47 : Int) (r_55 : LI) (c1 : Int → Int → Option (Int × Bool)) (Hc1 : ∀ (x_21 : Int) (m_22 : Int) (s : Nat → V), zl [(1, bG 1 x_1), (2, ji 0), (3, jb false), (4, ji x_21), (5, ji m_22)] s → c1 x_21 m_22 = some r → Run D σ (R16 r) (.run YH [.lp YH, .bk 0, .sq Y0]) s) (c4 : Int → Int → Option (Int × Bool)) (Hc4 : ∀ (x_46 : Int) (x_47 : Int) (s : Nat → V), zl [(1, bG 1 x_1), (2, ji 0), (3, jb false), (4, ji x_21), (5, ji m_22), (6, ji x_46), (7, ji x_47)] s → c4 x_46 x_47 = some r → Run D σ (R16 r) (.run Ur [.lp Ur, .bk 2, .sq U6, .bk 1, .sq UZ, .lp YH, .bk 0, .sq Y0]) s) (x_56 : Bool) (s : Nat → V) (hs : zl [(1, bG 1 x_1), (2, ji 0), (3, jb false), (4, ji x_21), (5, ji m_22), (6, ji x_46), (7, ji x_47), (9, ji (r_55.length : Int)), (44, jb x_56)] s) (h : vi F x_1 x_21 m_22 x_46 x_47 r_55 c1 c4 x_56 = some r) : Run D σ (R16 r) (.nrm [.sq zeX, .bk 3, .sq zbk, .lp Ur, .bk 2, .sq U6, .bk 1, .sq UZ, .lp YH, .bk 0, .sq Y0]) s := by
 unfold vi at h
 obtain ⟨h1, h2, h3, h4, h5, h6, h7, h9, h44⟩ := hs
 refine .nsq (zi (t := x_56) h44 h (fun h => ?_) (fun h => ?_))
 · refine rg (gm h9 fun h45 => gm h45 fun h6 => gq ?_)
   exact Q0 H x_1 x_21 m_22 x_47 c1 Hc1 c4 Hc4 (r_55.length : Int) _ ⟨h1, h2, h3, h4, h5, h6, h7⟩ h
 refine .skip ?_
 exact Q0 H x_1 x_21 m_22 x_47 c1 Hc1 c4 Hc4 x_46 _ ⟨h1, h2, h3, h4, h5, h6, h7⟩ h
def yC (F : Nat) (x_1 : GR) (x_21 : Int) (m_22 : Int) (c1 : Int → Int → Option (Int × Bool)) : Nat → Int → Int → Option (Int × Bool)
 | 0, _, _ => none
 | k + 1, x_46, x_47 =>
   (ZW .i64 1 x_1.1).bind fun q_53 =>
   bif decide (x_47 < q_53) then
    (ZM F x_1.1 x_47).bind fun r_54 =>
    bif ((r_54.length : Int) != m_22) then
     (yC F x_1 x_21 m_22 c1 k) x_46 (w64 (x_47 + 1))
    else
     (xx F x_1 r_54).bind fun r_55 =>
     bif decide (x_46 < 0) then
      vi F x_1 x_21 m_22 x_46 x_47 r_55 c1 (yC F x_1 x_21 m_22 c1 k) true
     else
      vi F x_1 x_21 m_22 x_46 x_47 r_55 c1 (yC F x_1 x_21 m_22 c1 k) (decide ((r_55.length : Int) < x_46))
   else
    (uc F x_21 x_46).bind fun r_58 =>
    c1 r_58 (w64 (m_22 + 1))
theorem zgB (H : H16 D σ F) (x_1 : GR) (x_21 : Int) (m_22 : Int) (c1 : Int → Int → Option (Int × Bool)) (Hc1 : ∀ (x_21 : Int) (m_22 : Int) (s : Nat → V), zl [(1, bG 1 x_1), (2, ji 0), (3, jb false), (4, ji x_21), (5, ji m_22)] s → c1 x_21 m_22 = some r → Run D σ (R16 r) (.run YH [.lp YH, .bk 0, .sq Y0]) s) : ∀ (k : Nat) (x_46 : Int) (x_47 : Int) (s : Nat → V), zl [(1, bG 1 x_1), (2, ji 0), (3, jb false), (4, ji x_21), (5, ji m_22), (6, ji x_46), (7, ji x_47)] s → yC F x_1 x_21 m_22 c1 k x_46 x_47 = some r → Run D σ (R16 r) (.run Ur [.lp Ur, .bk 2, .sq U6, .bk 1, .sq UZ, .lp YH, .bk 0, .sq Y0]) s := by
 intro k
 induction k with
 | zero => intro x_46 x_47 s _ h; exact nm h
 | succ k ih =>
   intro x_46 x_47 s hs h
   rw [yC] at h
   obtain ⟨h1, h2, h3, h4, h5, h6, h7⟩ := hs
   refine .seq (.seq (rg (gm h7 fun h19 => g1 1 (.ref (.bx 1) 0 [0] (ji x_1.1)) h1 fun h20 => g1 20 (ji x_1.1) h20 fun h21 => ?_)))
   obtain ⟨q_53, E_q_53, h⟩ := bind_some h
   refine gv (ji q_53) (v9 rfl h21 E_q_53) fun h22 => g2 19 22 (jb (decide (x_47 < q_53))) h19 h22 fun h23 => gq (.nsq (zi (t := decide (x_47 < q_53)) h23 h (fun h => ?_) (fun h => ?_)))
   · refine .skip (.nsq (.seq (.block (.seq (rg (g1 1 (.ref (.bx 1) 0 [0] (ji x_1.1)) h1 fun h26 => g1 26 (ji x_1.1) h26 fun h27 => gm h7 fun h28 => ?_))))))
     obtain ⟨r_54, E_r_54, h⟩ := bind_some h
     refine zB (m := 0) (al := false) (r := eL r_54) [Enc.enc (x_1.1 : Int), Enc.enc (x_47 : Int)] (zd (v := ji x_1.1) h27 rfl rfl (zd (v := ji x_47) h28 rfl rfl zw)) (H.c38 _ _ _ E_r_54) H.g38 rfl rfl rfl rfl (gm (rf (eL r_54)) fun h8 => gq (.nsq (.seq (.seq (rg (gm h8 fun h30 => gv (ji (r_54.length : Int)) (yo (xs := r_54) h30) fun h31 => gm h5 fun h32 => g2 31 32 (jb ((r_54.length : Int) != m_22)) h31 h32 fun h33 => gq (.nsq (zi (t := ((r_54.length : Int) != m_22)) h33 h (fun h => ?_) (fun h => ?_)))))))))
     · refine .exit (.esq (.ebk (.nsq (rg (gm h7 fun h24 => g1 24 (ji (w64 (x_47 + 1))) h24 fun h25 => gm h25 fun h7 => gz [(1, _), (2, _), (3, _), (4, _), (5, _), (6, _), (7, _)] ⟨h1, h2, h3, h4, h5, h6, h7⟩ ?_)))))
       rintro s ⟨h1, h2, h3, h4, h5, h6, h7⟩
       refine .nlp ?_
       exact ih x_46 (w64 (x_47 + 1)) _ ⟨h1, h2, h3, h4, h5, h6, h7⟩ h
     refine .skip (.nsq (.seq (rg (g1 1 (gV x_1) h1 fun h34 => gm h8 fun h35 => ?_))))
     obtain ⟨r_55, E_r_55, h⟩ := bind_some h
     refine zB (m := 0) (al := true) (r := eL r_55) [Enc.enc (x_1 : GR), eL r_54] (zd (v := gV x_1) h34 rfl (Enc.erase_enc (x_1 : GR)) (zd (v := eL r_54) h35 rfl (Enc.erase_enc (r_54 : LI)) zw)) (H.c27 _ _ _ E_r_55) H.g27 (Zd (xk (v := gV x_1) h34 rfl rfl (xk (v := eL r_54) h35 rfl rfl uV))) rfl rfl rfl (gv (ji (r_55.length : Int)) (yo (xs := r_55) rfl) fun h37 => gm h37 fun h9 => gz [(1, _), (2, _), (3, _), (4, _), (5, _), (6, _), (7, _), (9, _)] ⟨h1, h2, h3, h4, h5, h6, h7, h9⟩ ?_)
     rintro s ⟨h1, h2, h3, h4, h5, h6, h7, h9⟩
     refine .nsq (.seq (rg (gm h6 fun h38 => g1 38 (jb (decide (x_46 < 0))) h38 fun h39 => gm h39 fun h40 => zP (c := decide (x_46 < 0)) h (fun hg3 h => ?_) (fun hg3 h => ?_))))
     · iterate 3 refine ym (ct h40 hg3) ?_
       refine g2 40 43 (jb true) (ct h40 hg3) (rf (.tup [])) fun h44 => gq ?_
       exact zay H x_1 x_21 m_22 x_46 x_47 r_55 c1 Hc1 (yC F x_1 x_21 m_22 c1 k) ih true _ ⟨h1, h2, h3, h4, h5, h6, h7, h9, h44⟩ h
     refine zg (ct h40 hg3) (gm h9 fun h41 => zg (ct h40 hg3) (gm h6 fun h42 => zg (ct h40 hg3) (g2 41 42 (jb (decide ((r_55.length : Int) < x_46))) h41 h42 fun h43 => g2 40 43 (jb (decide ((r_55.length : Int) < x_46))) (ct h40 hg3) h43 fun h44 => gq ?_)))
     exact zay H x_1 x_21 m_22 x_46 x_47 r_55 c1 Hc1 (yC F x_1 x_21 m_22 c1 k) ih (decide ((r_55.length : Int) < x_46)) _ ⟨h1, h2, h3, h4, h5, h6, h7, h9, h44⟩ h
   refine .exit (.esq (.elp (.ebk (.nsq (rg (gm h4 fun h46 => gm h6 fun h47 => ?_))))))
   obtain ⟨r_58, E_r_58, h⟩ := bind_some h
   refine zB (m := 0) (al := false) (r := Enc.enc (r_58 : Int)) [Enc.enc (x_21 : Int), Enc.enc (x_46 : Int)] (zd (v := ji x_21) h46 rfl rfl (zd (v := ji x_46) h47 rfl rfl zw)) (H.c39 _ _ _ E_r_58) H.g39 rfl rfl rfl rfl (gm (rf (ji r_58)) fun h4 => gq (.nbk (.nsq (rg (gm h5 fun h17 => g1 17 (ji (w64 (m_22 + 1))) h17 fun h18 => gm h18 fun h5 => gq (.nlp ?_))))))
   exact Hc1 r_58 (w64 (m_22 + 1)) _ ⟨h1, h2, h3, h4, h5⟩ h
def xd (F : Nat) (x_1 : GR)  : Nat → Int → Int → Option (Int × Bool)
 | 0, _, _ => none
 | k + 1, x_21, m_22 =>
   bif decide (m_22 ≤ x_1.1) then
    yC F x_1 x_21 m_22 (xd F x_1 k) F (-1) 0
   else
    some (x_21, true)
theorem zgI (H : H16 D σ F) (x_1 : GR)  : ∀ (k : Nat) (x_21 : Int) (m_22 : Int) (s : Nat → V), zl [(1, bG 1 x_1), (2, ji 0), (3, jb false), (4, ji x_21), (5, ji m_22)] s → xd F x_1 k x_21 m_22 = some r → Run D σ (R16 r) (.run YH [.lp YH, .bk 0, .sq Y0]) s := by
 intro k
 induction k with
 | zero => intro x_21 m_22 s _ h; exact nm h
 | succ k ih =>
   intro x_21 m_22 s hs h
   rw [xd] at h
   obtain ⟨h1, h2, h3, h4, h5⟩ := hs
   refine .seq (.seq (rg (gm h5 fun h13 => g1 1 (.ref (.bx 1) 0 [0] (ji x_1.1)) h1 fun h14 => g1 14 (ji x_1.1) h14 fun h15 => g2 13 15 (jb (decide (m_22 ≤ x_1.1))) h13 h15 fun h16 => gq (.nsq (zi (t := decide (m_22 ≤ x_1.1)) h16 h (fun h => ?_) (fun h => ?_))))))
   · refine .skip (.nsq (.seq (.block (.seq (rg (g0 (ji (-1)) fun h6 => gq (.nsq (.seq (.seq (rg (g0 (ji 0) fun h7 => gq (.nsq (.block (.loop ?_))))))))))))))
     exact zgB H x_1 x_21 m_22 (xd F x_1 k) ih F (-1) 0 _ ⟨h1, h2, h3, h4, h5, h6, h7⟩ h
   refine .exit (.esq (.elp (.ebk (.nsq (.seq (rg (gm h4 fun h49 => gm h49 fun h2 => g0 (jb true) fun h3 => gq (.nsq (.ret ?_)))))))))
   have hr := Option.some.inj h
   subst hr
   exact rrB (zf h2) (zf h3) rfl
def wZ (F : Nat) (x_1 : GR) : Option (Int × Bool) :=
 (vf F x_1).bind fun r_2 =>
 bif (!r_2) then
  some (0, false)
 else
  xd F x_1 F 0 0
theorem t16 (H : H16 D σ F) (x_1 : GR) (s : Nat → V) (hs : zl [(0, gV x_1)] s) (h : wZ F x_1 = some r) : Run D σ (R16 r) (.run A16 []) s := by
 unfold wZ at h
 have h0 := hs
 refine .seq (zt (zR ?_))
 refine ez [(0, _), (1, _)] ⟨za h0 rfl mIE, zb rfl⟩ ?_
 rintro s ⟨h0, h1⟩
 refine xB (gV x_1) (zy h0 rfl) h1 rfl (g0 (ji 0) fun h2 => g0 (jb false) fun h3 => gq (.nsq (.seq (.seq (rg (g1 1 (gV x_1) (rf (bG 1 x_1)) fun h10 => ?_))))))
 obtain ⟨r_2, E_r_2, h⟩ := bind_some h
 refine zB (m := 0) (al := false) (r := Enc.enc (r_2 : Bool)) [Enc.enc (x_1 : GR)] (zd (v := gV x_1) h10 rfl (Enc.erase_enc (x_1 : GR)) zw) (H.c25 _ _ E_r_2) H.g25 rfl rfl rfl rfl (g1 11 (jb (!r_2)) (rf (jb r_2)) fun h12 => gq (.nsq (zi (t := (!r_2)) h12 h (fun h => ?_) (fun h => ?_))))
 · refine .seq (rg (g0 (ji 0) fun h2 => g0 (jb false) fun h3 => gq (.nsq (.ret ?_))))
   have hr := Option.some.inj h
   subst hr
   exact rrB (zf h2) (zf h3) rfl
 refine .skip (.nsq (.seq (rg (g0 (ji 0) fun h4 => gq (.nsq (.seq (.seq (rg (g0 (ji 0) fun h5 => gq (.nsq (.block (.loop ?_))))))))))))
 exact zgI H x_1 F 0 0 _ ⟨rfl, h2, h3, h4, h5⟩ h
end
def e16 (F : Nat) : Ent := ent 16 (fun (x : (GR × Unit)) => wZ F x.1) (fun (r : (Int × Bool)) => (.tup [Enc.enc (r.1 : Int), Enc.enc (r.2 : Bool)])) 0 false []
abbrev C16 (D : List V → Option V) (F : Nat) : Prop := ∀ (x0 : GR) r, wZ F x0 = some r → D [Enc.enc x0] = some (.tup [Enc.enc (r.1 : Int), Enc.enc (r.2 : Bool)])
theorem p16 {F : Nat} : C16 (e16 F).den F := fun x0 _ h => zJ (x0, ()) h
theorem o16 {D : Den} {σ : Sig} {F : Nat} (hF : zu Try.prog D σ) (H : H16 D σ F) : (e16 F).Ok Try.prog := by
 refine yd (f := 16) (show unk 16 = 16 from rfl) (fun args r h => ?_) ⟨Try.f16, Try.func16, rfl, rfl⟩
 obtain ⟨⟨x0, _⟩, y, rfl, hy, rfl⟩ := zH h
 exact zk hF (by kernel_rfl) Try.func16 rfl c16 (show 1 ≤ Try.f16.ntmps by decide) (t16 H x0 _ rfl hy)
def zpL : AC := (.cond (.t 9) .skip (.exit 0))
def zoM : AC := (.cond (.t 17) (.seq (.reg [] [jv 4 (.mov kt)] []) .ret) .skip)
def zmW : AC := (.reg [] [jm 10 5, jv 11 (.bin .add (.t 10) (jn 1)), jm 5 11] [])
def zpB : AC := (.seq (.block 1 (.seq (.reg [] [jm 12 0, jm 13 5, jv 14 (.idx (.t 12) (.t 13) 1), jv 15 (.load .s (.t 14)), jm 16 1, jv 17 (.bin .eql (.t 15) (.t 16))] []) zoM)) zmW)
def zfT : AC := (.seq (.seq (.reg [] [jm 6 5, jm 7 0, jv 8 (.len (.t 7)), jv 9 (.bin .lss (.t 6) (.t 8))] []) zpL) zpB)
def ziJ : AC := (.seq (.reg [] [jv 4 (.mov kf)] []) .ret)
def zpy : AC := (.block 0 (.loop zfT))
def zow : AC := (.seq (.seq (.reg [] [jv 5 (.mov (jn 0))] []) zpy) ziJ)
def A17 : AC := (.seq (.reg [] [jv 4 (.mov kf)] []) zow)
def zrh : List An := []
theorem c17 : cC Try.prog Try.f17.ntmps zrh (Try.f17.body.getD .skip) = some A17 := by kernel_rfl
structure H17 (D : Den) (σ : Sig) (F : Nat) : Prop where
 mk ::
abbrev R17 (r : Bool) : (Nat → V) → Prop := RR Try.prog [.tmp 4] 0 false (Enc.enc (r : Bool))
section
variable {D : Den} {σ : Sig} {F : Nat} {r : Bool}
def Zu (F : Nat) (x_1 : LI) (x_2 : Int)  : Nat → Int → Option Bool
 | 0, _ => none
 | k + 1, x_4 =>
   bif decide (x_4 < (x_1.length : Int)) then
    (idx x_1 x_4).bind fun e_6 =>
    bif (e_6 == x_2) then
     some true
    else
     (Zu F x_1 x_2 k) (w64 (x_4 + 1))
   else
    some false
theorem zeW (H : H17 D σ F) (x_1 : LI) (x_2 : Int)  : ∀ (k : Nat) (x_4 : Int) (s : Nat → V), zl [(0, eL x_1), (1, ji x_2), (4, jb false), (5, ji x_4)] s → Zu F x_1 x_2 k x_4 = some r → Run D σ (R17 r) (.run zfT [.lp zfT, .bk 0, .sq ziJ]) s := by
 intro k
 induction k with
 | zero => intro x_4 s _ h; exact nm h
 | succ k ih =>
   intro x_4 s hs h
   rw [Zu] at h
   obtain ⟨h0, h1, h4, h5⟩ := hs
   refine .seq (.seq (rg (gm h5 fun h6 => gm h0 fun h7 => gv (ji (x_1.length : Int)) (yo (xs := x_1) h7) fun h8 => g2 6 8 (jb (decide (x_4 < (x_1.length : Int)))) h6 h8 fun h9 => gq (.nsq (zi (t := decide (x_4 < (x_1.length : Int))) h9 h (fun h => ?_) (fun h => ?_))))))
   · refine .skip (.nsq (.seq (.block (.seq (rg (gm h0 fun h12 => gm h5 fun h13 => ?_))))))
     obtain ⟨e_6, E_e_6, h⟩ := bind_some h
     refine gv (.ref .sh 0 [] (ji e_6)) (yu (t := .sh) (lo := 0) (xs := x_1) h12 h13 E_e_6 rfl rfl) fun h14 => g1 14 (ji e_6) h14 fun h15 => gm h1 fun h16 => g2 15 16 (jb (e_6 == x_2)) h15 h16 fun h17 => gq (.nsq (zi (t := (e_6 == x_2)) h17 h (fun h => ?_) (fun h => ?_)))
     · refine .seq (rg (g0 (jb true) fun h4 => gq (.nsq (.ret ?_))))
       have hr := Option.some.inj h
       subst hr
       exact rrA (zf h4) rfl
     refine .skip (.nbk (.nsq (rg (gm h5 fun h10 => g1 10 (ji (w64 (x_4 + 1))) h10 fun h11 => gm h11 fun h5 => gq (.nlp ?_)))))
     exact ih (w64 (x_4 + 1)) _ ⟨h0, h1, h4, h5⟩ h
   refine .exit (.esq (.elp (.ebk (.nsq (.seq (rg (g0 (jb false) fun h4 => gq (.nsq (.ret ?_)))))))))
   have hr := Option.some.inj h
   subst hr
   exact rrA (zf h4) rfl
def Ui (F : Nat) (x_1 : LI) (x_2 : Int) : Option Bool :=
 Zu F x_1 x_2 F 0
theorem t17 (H : H17 D σ F) (x_1 : LI) (x_2 : Int) (s : Nat → V) (hs : zl [(0, eL x_1), (1, ji x_2)] s) (h : Ui F x_1 x_2 = some r) : Run D σ (R17 r) (.run A17 []) s := by
 unfold Ui at h
 obtain ⟨h0, h1⟩ := hs
 refine .seq (rg (g0 (jb false) fun h4 => gq (.nsq (.seq (.seq (rg (g0 (ji 0) fun h5 => gq (.nsq (.block (.loop ?_))))))))))
 exact zeW H x_1 x_2 F 0 _ ⟨h0, h1, h4, h5⟩ h
end
def e17 (F : Nat) : Ent := ent 17 (fun (x : (LI × Int × Unit)) => Ui F x.1 x.2.1) (fun (r : Bool) => (Enc.enc (r : Bool))) 0 false []
abbrev C17 (D : List V → Option V) (F : Nat) : Prop := ∀ (x0 : LI) (x1 : Int) r, Ui F x0 x1 = some r → D [Enc.enc x0, Enc.enc x1] = some (Enc.enc (r : Bool))
theorem p17 {F : Nat} : C17 (e17 F).den F := fun x0 x1 _ h => zJ (x0, x1, ()) h
theorem o17 {D : Den} {σ : Sig} {F : Nat} (hF : zu Try.prog D σ) (H : H17 D σ F) : (e17 F).Ok Try.prog := by
 refine yd (f := 17) (show unk 17 = 17 from rfl) (fun args r h => ?_) ⟨Try.f17, Try.func17, rfl, rfl⟩
 obtain ⟨⟨x0, x1, _⟩, y, rfl, hy, rfl⟩ := zH h
 exact zk hF (by kernel_rfl) Try.func17 rfl c17 (show 2 ≤ Try.f17.ntmps by decide) (t17 H x0 x1 _ ⟨rfl, rfl⟩ hy)
def zm9 : AC := (.seq (.reg [] [jv 5 (.load (.ag [.s, .p]) (.t 2)), jx 6 (.call (jf 21) [.t 5]), jm 7 6, jg 8 7 true (.mov (.t 1)), jg 9 7 true (.fld (.t 2) 0 0), jg 10 7 true (.load .s (.t 9)), jg 11 7 true (.bin .sub (.t 10) (jn 1)), .mk (some 12) (some (7, true)) false (.call (jf 48) [.t 8, jn 0, .t 11]), jv 13 (.pick (.t 7) (.t 12) kf), jm 4 13] []) .ret)
def A60 : AC := (.seq (.reg [.clr [2]] [jx 2 (.box (.t 0)), jv 4 (.mov kf)] []) zm9)
def zp6 : List An := [⟨0, [.clr [2]], [], [], []⟩]
theorem c60 : cC Try.prog Try.f60.ntmps zp6 (Try.f60.body.getD .skip) = some A60 := by kernel_rfl
structure H60 (D : Den) (σ : Sig) (F : Nat) : Prop where
 c21 : C21 (D 21) F
 g21 : σ 21 = some (0, false)
 c48 : C48 (D 48) F
 g48 : σ 48 = some (0, false)
abbrev R60 (r : Bool) : (Nat → V) → Prop := RR Try.prog [.tmp 4] 0 false (Enc.enc (r : Bool))
section
variable {D : Den} {σ : Sig} {F : Nat} {r : Bool}
def Zn (F : Nat) (x_1 : GR) (x_2 : LI) : Option Bool :=
 (xP F x_1).bind fun r_3 =>
 bif r_3 then
  (wv F x_2 0 (w64 (x_1.1 - 1))).bind fun r_4 =>
  some r_4
 else
  some false
theorem t60 (H : H60 D σ F) (x_1 : GR) (x_2 : LI) (s : Nat → V) (hs : zl [(0, gV x_1), (1, eL x_2)] s) (h : Zn F x_1 x_2 = some r) : Run D σ (R60 r) (.run A60 []) s := by
 unfold Zn at h
 obtain ⟨h0, h1⟩ := hs
 refine .seq (zt (zR ?_))
 refine ez [(0, _), (1, _), (2, _)] ⟨za h0 rfl mIE, za h1 rfl me, zb rfl⟩ ?_
 rintro s ⟨h0, h1, h2⟩
 refine xB (gV x_1) (zy h0 rfl) h2 rfl (g0 (jb false) fun h4 => gq (.nsq (.seq (rg (g1 2 (gV x_1) (rf (bG 2 x_1)) fun h5 => ?_)))))
 obtain ⟨r_3, E_r_3, h⟩ := bind_some h
 refine zB (m := 0) (al := false) (r := Enc.enc (r_3 : Bool)) [Enc.enc (x_1 : GR)] (zd (v := gV x_1) h5 rfl (Enc.erase_enc (x_1 : GR)) zw) (H.c21 _ _ E_r_3) H.g21 rfl rfl rfl rfl (gm (rf (jb r_3)) fun h7 => zP (c := r_3) h (fun hg3 h => ?_) (fun hg3 h => ?_))
 · refine zg (ct h7 hg3) (gm h1 fun h8 => zg (ct h7 hg3) (g1 2 (.ref (.bx 2) 0 [0] (ji x_1.1)) (rf (bG 2 x_1)) fun h9 => zg (ct h7 hg3) (g1 9 (ji x_1.1) h9 fun h10 => zg (ct h7 hg3) (g1 10 (ji (w64 (x_1.1 - 1))) h10 fun h11 => ?_))))
   obtain ⟨r_4, E_r_4, h⟩ := bind_some h
   refine zg (ct h7 hg3) (zB (m := 0) (al := false) (r := Enc.enc (r_4 : Bool)) [eL x_2, Enc.enc (0 : Int), Enc.enc (w64 (x_1.1 - 1) : Int)] (zd (v := eL x_2) h8 rfl (Enc.erase_enc (x_2 : LI)) (zd (v := ji 0) rfl rfl rfl (zd (v := ji (w64 (x_1.1 - 1))) h11 rfl rfl zw))) (H.c48 _ _ _ _ E_r_4) H.g48 rfl rfl rfl rfl (g2 7 12 (jb r_4) (ct h7 hg3) (rf (jb r_4)) fun h13 => gm h13 fun h4 => gq (.nsq (.ret ?_))))
   have hr := Option.some.inj h
   subst hr
   exact rrA (zf h4) rfl
 iterate 5 refine ym (ct h7 hg3) ?_
 refine g2 7 12 (jb false) (ct h7 hg3) (rf (.tup [])) fun h13 => gm h13 fun h4 => gq (.nsq (.ret ?_))
 have hr := Option.some.inj h
 subst hr
 exact rrA (zf h4) rfl
end
def e60 (F : Nat) : Ent := ent 60 (fun (x : (GR × LI × Unit)) => Zn F x.1 x.2.1) (fun (r : Bool) => (Enc.enc (r : Bool))) 0 false []
abbrev C60 (D : List V → Option V) (F : Nat) : Prop := ∀ (x0 : GR) (x1 : LI) r, Zn F x0 x1 = some r → D [Enc.enc x0, Enc.enc x1] = some (Enc.enc (r : Bool))
theorem p60 {F : Nat} : C60 (e60 F).den F := fun x0 x1 _ h => zJ (x0, x1, ()) h
theorem o60 {D : Den} {σ : Sig} {F : Nat} (hF : zu Try.prog D σ) (H : H60 D σ F) : (e60 F).Ok Try.prog := by
 refine yd (f := 60) (show unk 60 = 60 from rfl) (fun args r h => ?_) ⟨Try.f60, Try.func60, rfl, rfl⟩
 obtain ⟨⟨x0, x1, _⟩, y, rfl, hy, rfl⟩ := zH h
 exact zk hF (by kernel_rfl) Try.func60 rfl c60 (show 2 ≤ Try.f60.ntmps by decide) (t60 H x0 x1 _ ⟨rfl, rfl⟩ hy)
def zoJ : AC := (.cond (.t 7) .skip (.exit 0))
def zoc : AC := (.cond (.t 19) (.seq (.reg [] [jv 2 (.mov kf)] []) .ret) .skip)
def zmo : AC := (.reg [] [jm 8 3, jv 9 (.bin .add (.t 8) (jn 1)), jm 3 9] [])
def znP : AC := (.seq (.block 1 (.seq (.reg [] [jm 10 0, jm 11 3, jv 12 (.bin .sub (.t 11) (jn 1)), jv 13 (.idx (.t 10) (.t 12) 1), jv 14 (.load .s (.t 13)), jm 15 0, jm 16 3, jv 17 (.idx (.t 15) (.t 16) 1), jv 18 (.load .s (.t 17)), jv 19 (.bin .geq (.t 14) (.t 18))] []) zoc)) zmo)
def ze0 : AC := (.seq (.seq (.reg [] [jm 4 3, jm 5 0, jv 6 (.len (.t 5)), jv 7 (.bin .lss (.t 4) (.t 6))] []) zoJ) znP)
def ziL : AC := (.seq (.reg [] [jv 2 (.mov kt)] []) .ret)
def znU : AC := (.block 0 (.loop ze0))
def zlp : AC := (.seq (.seq (.reg [] [jv 3 (.mov (jn 1))] []) znU) ziL)
def A61 : AC := (.seq (.reg [] [jv 2 (.mov kf)] []) zlp)
def zqG : List An := []
theorem c61 : cC Try.prog Try.f61.ntmps zqG (Try.f61.body.getD .skip) = some A61 := by kernel_rfl
structure H61 (D : Den) (σ : Sig) (F : Nat) : Prop where
 mk ::
abbrev R61 (r : Bool) : (Nat → V) → Prop := RR Try.prog [.tmp 2] 0 false (Enc.enc (r : Bool))
section
variable {D : Den} {σ : Sig} {F : Nat} {r : Bool}
def yS (F : Nat) (x_1 : LI)  : Nat → Int → Option Bool
 | 0, _ => none
 | k + 1, x_4 =>
   bif decide (x_4 < (x_1.length : Int)) then
    (idx x_1 (w64 (x_4 - 1))).bind fun e_7 =>
    (idx x_1 x_4).bind fun e_8 =>
    bif decide (e_7 ≥ e_8) then
     some false
    else
     (yS F x_1 k) (w64 (x_4 + 1))
   else
    some true
theorem zex (H : H61 D σ F) (x_1 : LI)  : ∀ (k : Nat) (x_4 : Int) (s : Nat → V), zl [(0, eL x_1), (2, jb false), (3, ji x_4)] s → yS F x_1 k x_4 = some r → Run D σ (R61 r) (.run ze0 [.lp ze0, .bk 0, .sq ziL]) s := by
 intro k
 induction k with
 | zero => intro x_4 s _ h; exact nm h
 | succ k ih =>
   intro x_4 s hs h
   rw [yS] at h
   obtain ⟨h0, h2, h3⟩ := hs
   refine .seq (.seq (rg (gm h3 fun h4 => gm h0 fun h5 => gv (ji (x_1.length : Int)) (yo (xs := x_1) h5) fun h6 => g2 4 6 (jb (decide (x_4 < (x_1.length : Int)))) h4 h6 fun h7 => gq (.nsq (zi (t := decide (x_4 < (x_1.length : Int))) h7 h (fun h => ?_) (fun h => ?_))))))
   · refine .skip (.nsq (.seq (.block (.seq (rg (gm h0 fun h10 => gm h3 fun h11 => g1 11 (ji (w64 (x_4 - 1))) h11 fun h12 => ?_))))))
     obtain ⟨e_7, E_e_7, h⟩ := bind_some h
     refine gv (.ref .sh 0 [] (ji e_7)) (yu (t := .sh) (lo := 0) (xs := x_1) h10 h12 E_e_7 rfl rfl) fun h13 => g1 13 (ji e_7) h13 fun h14 => gm h0 fun h15 => gm h3 fun h16 => ?_
     obtain ⟨e_8, E_e_8, h⟩ := bind_some h
     refine gv (.ref .sh 0 [] (ji e_8)) (yu (t := .sh) (lo := 0) (xs := x_1) h15 h16 E_e_8 rfl rfl) fun h17 => g1 17 (ji e_8) h17 fun h18 => g2 14 18 (jb (decide (e_7 ≥ e_8))) h14 h18 fun h19 => gq (.nsq (zi (t := decide (e_7 ≥ e_8)) h19 h (fun h => ?_) (fun h => ?_)))
     · refine .seq (rg (g0 (jb false) fun h2 => gq (.nsq (.ret ?_))))
       have hr := Option.some.inj h
       subst hr
       exact rrA (zf h2) rfl
     refine .skip (.nbk (.nsq (rg (gm h3 fun h8 => g1 8 (ji (w64 (x_4 + 1))) h8 fun h9 => gm h9 fun h3 => gq (.nlp ?_)))))
     exact ih (w64 (x_4 + 1)) _ ⟨h0, h2, h3⟩ h
   refine .exit (.esq (.elp (.ebk (.nsq (.seq (rg (g0 (jb true) fun h2 => gq (.nsq (.ret ?_)))))))))
   have hr := Option.some.inj h
   subst hr
   exact rrA (zf h2) rfl
def vO (F : Nat) (x_1 : LI) : Option Bool :=
 yS F x_1 F 1
theorem t61 (H : H61 D σ F) (x_1 : LI) (s : Nat → V) (hs : zl [(0, eL x_1)] s) (h : vO F x_1 = some r) : Run D σ (R61 r) (.run A61 []) s := by
 unfold vO at h
 have h0 := hs
 refine .seq (rg (g0 (jb false) fun h2 => gq (.nsq (.seq (.seq (rg (g0 (ji 1) fun h3 => gq (.nsq (.block (.loop ?_))))))))))
 exact zex H x_1 F 1 _ ⟨h0, h2, h3⟩ h
end
def e61 (F : Nat) : Ent := ent 61 (fun (x : (LI × Unit)) => vO F x.1) (fun (r : Bool) => (Enc.enc (r : Bool))) 0 false []
abbrev C61 (D : List V → Option V) (F : Nat) : Prop := ∀ (x0 : LI) r, vO F x0 = some r → D [Enc.enc x0] = some (Enc.enc (r : Bool))
theorem p61 {F : Nat} : C61 (e61 F).den F := fun x0 _ h => zJ (x0, ()) h
theorem o61 {D : Den} {σ : Sig} {F : Nat} (hF : zu Try.prog D σ) (H : H61 D σ F) : (e61 F).Ok Try.prog := by
 refine yd (f := 61) (show unk 61 = 61 from rfl) (fun args r h => ?_) ⟨Try.f61, Try.func61, rfl, rfl⟩
 obtain ⟨⟨x0, _⟩, y, rfl, hy, rfl⟩ := zH h
 exact zk hF (by kernel_rfl) Try.func61 rfl c61 (show 1 ≤ Try.f61.ntmps by decide) (t61 H x0 _ rfl hy)
def zkQ : AC := (.seq (.reg [] [jv 5 (.load (.ag [.s, .p]) (.t 2)), jm 6 1, jx 7 (.call (jf 60) [.t 5, .t 6]), jm 8 7, jg 9 8 true (.mov (.t 1)), .mk (some 10) (some (8, true)) false (.call (jf 61) [.t 9]), jv 11 (.pick (.t 8) (.t 10) kf), jm 4 11] []) .ret)
def A40 : AC := (.seq (.reg [.clr [2]] [jx 2 (.box (.t 0)), jv 4 (.mov kf)] []) zkQ)
def zqn : List An := [⟨0, [.clr [2]], [], [], []⟩]
theorem c40 : cC Try.prog Try.f40.ntmps zqn (Try.f40.body.getD .skip) = some A40 := by kernel_rfl
structure H40 (D : Den) (σ : Sig) (F : Nat) : Prop where
 c60 : C60 (D 60) F
 g60 : σ 60 = some (0, false)
 c61 : C61 (D 61) F
 g61 : σ 61 = some (0, false)
abbrev R40 (r : Bool) : (Nat → V) → Prop := RR Try.prog [.tmp 4] 0 false (Enc.enc (r : Bool))
section
variable {D : Den} {σ : Sig} {F : Nat} {r : Bool}
def YJ (F : Nat) (x_1 : GR) (x_2 : LI) : Option Bool :=
 (Zn F x_1 x_2).bind fun r_3 =>
 bif r_3 then
  (vO F x_2).bind fun r_4 =>
  some r_4
 else
  some false
theorem t40 (H : H40 D σ F) (x_1 : GR) (x_2 : LI) (s : Nat → V) (hs : zl [(0, gV x_1), (1, eL x_2)] s) (h : YJ F x_1 x_2 = some r) : Run D σ (R40 r) (.run A40 []) s := by
 unfold YJ at h
 obtain ⟨h0, h1⟩ := hs
 refine .seq (zt (zR ?_))
 refine ez [(0, _), (1, _), (2, _)] ⟨za h0 rfl mIE, za h1 rfl me, zb rfl⟩ ?_
 rintro s ⟨h0, h1, h2⟩
 refine xB (gV x_1) (zy h0 rfl) h2 rfl (g0 (jb false) fun h4 => gq (.nsq (.seq (rg (g1 2 (gV x_1) (rf (bG 2 x_1)) fun h5 => gm h1 fun h6 => ?_)))))
 obtain ⟨r_3, E_r_3, h⟩ := bind_some h
 refine zB (m := 0) (al := false) (r := Enc.enc (r_3 : Bool)) [Enc.enc (x_1 : GR), eL x_2] (zd (v := gV x_1) h5 rfl (Enc.erase_enc (x_1 : GR)) (zd (v := eL x_2) h6 rfl (Enc.erase_enc (x_2 : LI)) zw)) (H.c60 _ _ _ E_r_3) H.g60 rfl rfl rfl rfl (gm (rf (jb r_3)) fun h8 => zP (c := r_3) h (fun hg4 h => ?_) (fun hg4 h => ?_))
 · refine zg (ct h8 hg4) (gm h1 fun h9 => ?_)
   obtain ⟨r_4, E_r_4, h⟩ := bind_some h
   refine zg (ct h8 hg4) (zB (m := 0) (al := false) (r := Enc.enc (r_4 : Bool)) [eL x_2] (zd (v := eL x_2) h9 rfl (Enc.erase_enc (x_2 : LI)) zw) (H.c61 _ _ E_r_4) H.g61 rfl rfl rfl rfl (g2 8 10 (jb r_4) (ct h8 hg4) (rf (jb r_4)) fun h11 => gm h11 fun h4 => gq (.nsq (.ret ?_))))
   have hr := Option.some.inj h
   subst hr
   exact rrA (zf h4) rfl
 iterate 2 refine ym (ct h8 hg4) ?_
 refine g2 8 10 (jb false) (ct h8 hg4) (rf (.tup [])) fun h11 => gm h11 fun h4 => gq (.nsq (.ret ?_))
 have hr := Option.some.inj h
 subst hr
 exact rrA (zf h4) rfl
end
def e40 (F : Nat) : Ent := ent 40 (fun (x : (GR × LI × Unit)) => YJ F x.1 x.2.1) (fun (r : Bool) => (Enc.enc (r : Bool))) 0 false []
abbrev C40 (D : List V → Option V) (F : Nat) : Prop := ∀ (x0 : GR) (x1 : LI) r, YJ F x0 x1 = some r → D [Enc.enc x0, Enc.enc x1] = some (Enc.enc (r : Bool))
theorem p40 {F : Nat} : C40 (e40 F).den F := fun x0 x1 _ h => zJ (x0, x1, ()) h
theorem o40 {D : Den} {σ : Sig} {F : Nat} (hF : zu Try.prog D σ) (H : H40 D σ F) : (e40 F).Ok Try.prog := by
 refine yd (f := 40) (show unk 40 = 40 from rfl) (fun args r h => ?_) ⟨Try.f40, Try.func40, rfl, rfl⟩
 obtain ⟨⟨x0, x1, _⟩, y, rfl, hy, rfl⟩ := zH h
 exact zk hF (by kernel_rfl) Try.func40 rfl c40 (show 2 ≤ Try.f40.ntmps by decide) (t40 H x0 x1 _ ⟨rfl, rfl⟩ hy)
def zpJ : AC := (.cond (.t 9) (.seq (.reg [] [jv 4 (.mov (.k (.sl .nl .s 0 []))), jv 5 (.mov kf)] []) .ret) .skip)
def zo6 : AC := (.seq (.reg [] [jv 10 (.load (.ag [.s, .p]) (.t 2)), jx 11 (.call (jf 23) [.t 10]), jm 12 1, jx 13 (.call (jf 42) [.t 12]), jx 14 (.call (jf 36) [.t 11, .t 13]), jx 15 (.call (jf 41) [.t 14]), jm 4 15, jv 5 (.mov kt)] []) .ret)
def zmK : AC := (.seq (.seq (.reg [] [jv 6 (.load (.ag [.s, .p]) (.t 2)), jm 7 1, jx 8 (.call (jf 40) [.t 6, .t 7]), jv 9 (.un .not (.t 8))] []) zpJ) zo6)
def A18 : AC := (.seq (.reg [.clr [2]] [jx 2 (.box (.t 0)), jv 4 (.mov (.k (.sl .nl .s 0 []))), jv 5 (.mov kf)] []) zmK)
def zqg : List An := [⟨0, [.clr [2]], [], [], []⟩]
theorem c18 : cC Try.prog Try.f18.ntmps zqg (Try.f18.body.getD .skip) = some A18 := by kernel_rfl
structure H18 (D : Den) (σ : Sig) (F : Nat) : Prop where
 c40 : C40 (D 40) F
 g40 : σ 40 = some (0, false)
 c23 : C23 (D 23) F
 g23 : σ 23 = some (0, false)
 c42 : C42 (D 42) F
 g42 : σ 42 = some (0, false)
 c36 : C36 (D 36) F
 g36 : σ 36 = some (0, false)
 c41 : C41 (D 41) F
 g41 : σ 41 = some (0, false)
abbrev R18 (r : (LI × Bool)) : (Nat → V) → Prop := RR Try.prog [.tmp 4, .tmp 5] 0 true (.tup [eL r.1, Enc.enc (r.2 : Bool)])
section
variable {D : Den} {σ : Sig} {F : Nat} {r : (LI × Bool)}
def uD (F : Nat) (x_1 : GR) (x_2 : LI) : Option (LI × Bool) :=
 (YJ F x_1 x_2).bind fun r_3 =>
 bif (!r_3) then
  some ([], false)
 else
  (vp F x_1).bind fun r_4 =>
  (ub F x_2).bind fun r_5 =>
  (x9 F r_4 r_5).bind fun r_6 =>
  (uk F r_6).bind fun r_7 =>
  some (r_7, true)
theorem t18 (H : H18 D σ F) (x_1 : GR) (x_2 : LI) (s : Nat → V) (hs : zl [(0, gV x_1), (1, eL x_2)] s) (h : uD F x_1 x_2 = some r) : Run D σ (R18 r) (.run A18 []) s := by
 unfold uD at h
 obtain ⟨h0, h1⟩ := hs
 refine .seq (zt (zR ?_))
 refine ez [(0, _), (1, _), (2, _)] ⟨za h0 rfl mIE, za h1 rfl me, zb rfl⟩ ?_
 rintro s ⟨h0, h1, h2⟩
 refine xB (gV x_1) (zy h0 rfl) h2 rfl (g0 nI fun h4 => g0 (jb false) fun h5 => gq (.nsq (.seq (.seq (rg (g1 2 (gV x_1) (rf (bG 2 x_1)) fun h6 => gm h1 fun h7 => ?_))))))
 obtain ⟨r_3, E_r_3, h⟩ := bind_some h
 refine zB (m := 0) (al := false) (r := Enc.enc (r_3 : Bool)) [Enc.enc (x_1 : GR), eL x_2] (zd (v := gV x_1) h6 rfl (Enc.erase_enc (x_1 : GR)) (zd (v := eL x_2) h7 rfl (Enc.erase_enc (x_2 : LI)) zw)) (H.c40 _ _ _ E_r_3) H.g40 rfl rfl rfl rfl (g1 8 (jb (!r_3)) (rf (jb r_3)) fun h9 => gq (.nsq (zi (t := (!r_3)) h9 h (fun h => ?_) (fun h => ?_))))
 · refine .seq (rg (g0 nI fun h4 => g0 (jb false) fun h5 => gq (.nsq (.ret ?_))))
   have hr := Option.some.inj h
   subst hr
   exact rrB (zf h4) (zf h5) (xL (wo (zY (wz (o := (.nil : NL Int)) (t := .nl)) (zY (yO (x := (false : Bool))) xv))))
 refine .skip (.nsq (.seq (rg (g1 2 (gV x_1) (rf (bG 2 x_1)) fun h10 => ?_))))
 obtain ⟨r_4, E_r_4, h⟩ := bind_some h
 refine zB (m := 0) (al := false) (r := Enc.enc (r_4 : (S1 LI))) [Enc.enc (x_1 : GR)] (zd (v := gV x_1) h10 rfl (Enc.erase_enc (x_1 : GR)) zw) (H.c23 _ _ E_r_4) H.g23 rfl rfl rfl rfl (gm h1 fun h12 => ?_)
 obtain ⟨r_5, E_r_5, h⟩ := bind_some h
 refine zB (m := 0) (al := false) (r := Enc.enc (r_5 : Int)) [eL x_2] (zd (v := eL x_2) h12 rfl (Enc.erase_enc (x_2 : LI)) zw) (H.c42 _ _ E_r_5) H.g42 rfl rfl rfl rfl ?_
 obtain ⟨r_6, E_r_6, h⟩ := bind_some h
 refine zB (m := 0) (al := false) (r := Enc.enc (r_6 : Int)) [Enc.enc (r_4 : (S1 LI)), Enc.enc (r_5 : Int)] (zd (v := .agg [eL r_4.a]) rfl rfl (Enc.erase_enc (r_4 : (S1 LI))) (zd (v := ji r_5) rfl rfl rfl zw)) (H.c36 _ _ _ E_r_6) H.g36 rfl rfl rfl rfl ?_
 obtain ⟨r_7, E_r_7, h⟩ := bind_some h
 refine zB (m := 0) (al := false) (r := eL r_7) [Enc.enc (r_6 : Int)] (zd (v := ji r_6) rfl rfl rfl zw) (H.c41 _ _ E_r_7) H.g41 rfl rfl rfl rfl (gm (rf (eL r_7)) fun h4 => g0 (jb true) fun h5 => gq (.nsq (.ret ?_)))
 have hr := Option.some.inj h
 subst hr
 exact rrB (zf h4) (zf h5) (xL (wo (zY (yO (x := (r_7 : LI))) (zY (yO (x := (true : Bool))) xv))))
end
def e18 (F : Nat) : Ent := ent 18 (fun (x : (GR × LI × Unit)) => uD F x.1 x.2.1) (fun (r : (LI × Bool)) => (.tup [eL r.1, Enc.enc (r.2 : Bool)])) 0 true []
abbrev C18 (D : List V → Option V) (F : Nat) : Prop := ∀ (x0 : GR) (x1 : LI) r, uD F x0 x1 = some r → D [Enc.enc x0, Enc.enc x1] = some (.tup [eL r.1, Enc.enc (r.2 : Bool)])
theorem p18 {F : Nat} : C18 (e18 F).den F := fun x0 x1 _ h => zJ (x0, x1, ()) h
theorem o18 {D : Den} {σ : Sig} {F : Nat} (hF : zu Try.prog D σ) (H : H18 D σ F) : (e18 F).Ok Try.prog := by
 refine yd (f := 18) (show unk 18 = 18 from rfl) (fun args r h => ?_) ⟨Try.f18, Try.func18, rfl, rfl⟩
 obtain ⟨⟨x0, x1, _⟩, y, rfl, hy, rfl⟩ := zH h
 exact zk hF (by kernel_rfl) Try.func18 rfl c18 (show 2 ≤ Try.f18.ntmps by decide) (t18 H x0 x1 _ ⟨rfl, rfl⟩ hy)
def zpN : AC := (.cond (.t 11) .skip (.exit 0))
def zh0 : AC := (.cond (.t 37) (.seq (.reg [] [jv 6 (.mov kf)] []) .ret) .skip)
def zh1 : AC := (.reg [] [jm 12 7, jv 13 (.bin .add (.t 12) (jn 1)), jm 7 13] [])
def zpQ : AC := (.seq (.block 1 (.seq (.reg [] [jm 14 0, jm 15 7, jv 16 (.idx (.t 14) (.t 15) 1), jv 17 (.load .s (.t 16)), jm 18 1, jm 19 2, jx 20 (.call (jf 49) [.t 17, .t 18, .t 19]), jv 21 (.un .not (.t 20)), jm 22 21, jg 23 22 false (.mov (.t 7)), jg 24 22 false (.bin .gtr (.t 23) (jn 0)), jg 25 22 false (.mov (.t 24)), jg 26 25 true (.mov (.t 0)), jg 27 25 true (.mov (.t 7)), jg 28 25 true (.bin .sub (.t 27) (jn 1)), jg 29 25 true (.idx (.t 26) (.t 28) 1), jg 30 25 true (.load .s (.t 29)), jg 31 25 true (.mov (.t 0)), jg 32 25 true (.mov (.t 7)), jg 33 25 true (.idx (.t 31) (.t 32) 1), jg 34 25 true (.load .s (.t 33)), jg 35 25 true (.bin .geq (.t 30) (.t 34)), jg 36 22 false (.pick (.t 25) (.t 35) kf), jv 37 (.pick (.t 22) kt (.t 36))] []) zh0)) zh1)
def LN : AC := (.seq (.seq (.reg [] [jm 8 7, jm 9 0, jv 10 (.len (.t 9)), jv 11 (.bin .lss (.t 8) (.t 10))] []) zpN) zpQ)
def zcl : AC := (.seq (.reg [] [jv 6 (.mov kt)] []) .ret)
def zpU : AC := (.block 0 (.loop LN))
def zl9 : AC := (.seq (.seq (.reg [] [jv 7 (.mov (jn 0))] []) zpU) zcl)
def A62 : AC := (.seq (.reg [] [jv 6 (.mov kf)] []) zl9)
def zqB : List An := []
theorem c62 : cC Try.prog Try.f62.ntmps zqB (Try.f62.body.getD .skip) = some A62 := by kernel_rfl
structure H62 (D : Den) (σ : Sig) (F : Nat) : Prop where
 c49 : C49 (D 49) F
 g49 : σ 49 = some (0, false)
abbrev R62 (r : Bool) : (Nat → V) → Prop := RR Try.prog [.tmp 6] 0 false (Enc.enc (r : Bool))
section
variable {D : Den} {σ : Sig} {F : Nat} {r : Bool}
def vl (F : Nat) (x_1 : LI) (x_2 : Int) (x_3 : Int) (x_13 : Int) (c1 : Int → Option Bool) (x_27 : Bool) : Option Bool :=
 bif x_27 then
  some false
 else
  c1 (w64 (x_13 + 1))
theorem KP (H : H62 D σ F) (x_1 : LI) (x_2 : Int) (x_3 : Int) (x_13 : Int) (c1 : Int → Option Bool) (Hc1 : ∀ (x_13 : Int) (s : Nat → V), zl [(0, eL x_1), (1, ji x_2), (2, ji x_3), (6, jb false), (7, ji x_13)] s → c1 x_13 = some r → Run D σ (R62 r) (.run LN [.lp LN, .bk 0, .sq zcl]) s) (x_27 : Bool) (s : Nat → V) (hs : zl [(0, eL x_1), (1, ji x_2), (2, ji x_3), (6, jb false), (7, ji x_13), (37, jb x_27)] s) (h : vl F x_1 x_2 x_3 x_13 c1 x_27 = some r) : Run D σ (R62 r) (.nrm [.sq zh0, .bk 1, .sq zh1, .lp LN, .bk 0, .sq zcl]) s := by
 unfold vl at h
 obtain ⟨h0, h1, h2, h6, h7, h37⟩ := hs
 refine .nsq (zi (t := x_27) h37 h (fun h => ?_) (fun h => ?_))
 · refine .seq (rg (g0 (jb false) fun h6 => gq (.nsq (.ret ?_))))
   have hr := Option.some.inj h
   subst hr
   exact rrA (zf h6) rfl
 refine .skip (.nbk (.nsq (rg (gm h7 fun h12 => g1 12 (ji (w64 (x_13 + 1))) h12 fun h13 => gm h13 fun h7 => gq (.nlp ?_)))))
 exact Hc1 (w64 (x_13 + 1)) _ ⟨h0, h1, h2, h6, h7⟩ h
def yV (F : Nat) (x_1 : LI) (x_2 : Int) (x_3 : Int)  : Nat → Int → Option Bool
 | 0, _ => none
 | k + 1, x_13 =>
   bif decide (x_13 < (x_1.length : Int)) then
    (idx x_1 x_13).bind fun e_28 =>
    (Y3 F e_28 x_2 x_3).bind fun r_29 =>
    bif (!r_29) then
     vl F x_1 x_2 x_3 x_13 (yV F x_1 x_2 x_3 k) true
    else
     bif decide (x_13 > 0) then
      (idx x_1 (w64 (x_13 - 1))).bind fun e_30 =>
      (idx x_1 x_13).bind fun e_31 =>
      vl F x_1 x_2 x_3 x_13 (yV F x_1 x_2 x_3 k) (decide (e_30 ≥ e_31))
     else
      vl F x_1 x_2 x_3 x_13 (yV F x_1 x_2 x_3 k) false
   else
    some true
theorem zfz (H : H62 D σ F) (x_1 : LI) (x_2 : Int) (x_3 : Int)  : ∀ (k : Nat) (x_13 : Int) (s : Nat → V), zl [(0, eL x_1), (1, ji x_2), (2, ji x_3), (6, jb false), (7, ji x_13)] s → yV F x_1 x_2 x_3 k x_13 = some r → Run D σ (R62 r) (.run LN [.lp LN, .bk 0, .sq zcl]) s := by
 intro k
 induction k with
 | zero => intro x_13 s _ h; exact nm h
 | succ k ih =>
   intro x_13 s hs h
   rw [yV] at h
   obtain ⟨h0, h1, h2, h6, h7⟩ := hs
   refine .seq (.seq (rg (gm h7 fun h8 => gm h0 fun h9 => gv (ji (x_1.length : Int)) (yo (xs := x_1) h9) fun h10 => g2 8 10 (jb (decide (x_13 < (x_1.length : Int)))) h8 h10 fun h11 => gq (.nsq (zi (t := decide (x_13 < (x_1.length : Int))) h11 h (fun h => ?_) (fun h => ?_))))))
   · refine .skip (.nsq (.seq (.block (.seq (rg (gm h0 fun h14 => gm h7 fun h15 => ?_))))))
     obtain ⟨e_28, E_e_28, h⟩ := bind_some h
     refine gv (.ref .sh 0 [] (ji e_28)) (yu (t := .sh) (lo := 0) (xs := x_1) h14 h15 E_e_28 rfl rfl) fun h16 => g1 16 (ji e_28) h16 fun h17 => gm h1 fun h18 => gm h2 fun h19 => ?_
     obtain ⟨r_29, E_r_29, h⟩ := bind_some h
     refine zB (m := 0) (al := false) (r := Enc.enc (r_29 : Bool)) [Enc.enc (e_28 : Int), Enc.enc (x_2 : Int), Enc.enc (x_3 : Int)] (zd (v := ji e_28) h17 rfl rfl (zd (v := ji x_2) h18 rfl rfl (zd (v := ji x_3) h19 rfl rfl zw))) (H.c49 _ _ _ _ E_r_29) H.g49 rfl rfl rfl rfl (g1 20 (jb (!r_29)) (rf (jb r_29)) fun h21 => gm h21 fun h22 => zP (c := (!r_29)) h (fun hg9 h => ?_) (fun hg9 h => ?_))
     · iterate 3 refine ym (ct h22 hg9) ?_
       iterate 10 refine Z0 rfl ?_
       refine ym (ct h22 hg9) (g2 22 36 (jb true) (ct h22 hg9) (rf (.tup [])) fun h37 => gq ?_)
       exact KP H x_1 x_2 x_3 x_13 (yV F x_1 x_2 x_3 k) ih true _ ⟨h0, h1, h2, h6, h7, h37⟩ h
     refine zg (ct h22 hg9) (gm h7 fun h23 => zg (ct h22 hg9) (g1 23 (jb (decide (x_13 > 0))) h23 fun h24 => zg (ct h22 hg9) (gm h24 fun h25 => zP (c := decide (x_13 > 0)) h (fun hg12 h => ?_) (fun hg12 h => ?_))))
     · refine zg (ct h25 hg12) (gm h0 fun h26 => zg (ct h25 hg12) (gm h7 fun h27 => zg (ct h25 hg12) (g1 27 (ji (w64 (x_13 - 1))) h27 fun h28 => ?_)))
       obtain ⟨e_30, E_e_30, h⟩ := bind_some h
       refine zg (ct h25 hg12) (gv (.ref .sh 0 [] (ji e_30)) (yu (t := .sh) (lo := 0) (xs := x_1) h26 h28 E_e_30 rfl rfl) fun h29 => zg (ct h25 hg12) (g1 29 (ji e_30) h29 fun h30 => zg (ct h25 hg12) (gm h0 fun h31 => zg (ct h25 hg12) (gm h7 fun h32 => ?_))))
       obtain ⟨e_31, E_e_31, h⟩ := bind_some h
       refine zg (ct h25 hg12) (gv (.ref .sh 0 [] (ji e_31)) (yu (t := .sh) (lo := 0) (xs := x_1) h31 h32 E_e_31 rfl rfl) fun h33 => zg (ct h25 hg12) (g1 33 (ji e_31) h33 fun h34 => zg (ct h25 hg12) (g2 30 34 (jb (decide (e_30 ≥ e_31))) h30 h34 fun h35 => zg (ct h22 hg9) (g2 25 35 (jb (decide (e_30 ≥ e_31))) (ct h25 hg12) h35 fun h36 => g2 22 36 (jb (decide (e_30 ≥ e_31))) (ct h22 hg9) h36 fun h37 => gq ?_))))
       exact KP H x_1 x_2 x_3 x_13 (yV F x_1 x_2 x_3 k) ih (decide (e_30 ≥ e_31)) _ ⟨h0, h1, h2, h6, h7, h37⟩ h
     iterate 10 refine ym (ct h25 hg12) ?_
     refine zg (ct h22 hg9) (g2 25 35 (jb false) (ct h25 hg12) (rf (.tup [])) fun h36 => g2 22 36 (jb false) (ct h22 hg9) h36 fun h37 => gq ?_)
     exact KP H x_1 x_2 x_3 x_13 (yV F x_1 x_2 x_3 k) ih false _ ⟨h0, h1, h2, h6, h7, h37⟩ h
   refine .exit (.esq (.elp (.ebk (.nsq (.seq (rg (g0 (jb true) fun h6 => gq (.nsq (.ret ?_)))))))))
   have hr := Option.some.inj h
   subst hr
   exact rrA (zf h6) rfl
def Zm (F : Nat) (x_1 : LI) (x_2 : Int) (x_3 : Int) : Option Bool :=
 yV F x_1 x_2 x_3 F 0
theorem t62 (H : H62 D σ F) (x_1 : LI) (x_2 : Int) (x_3 : Int) (s : Nat → V) (hs : zl [(0, eL x_1), (1, ji x_2), (2, ji x_3)] s) (h : Zm F x_1 x_2 x_3 = some r) : Run D σ (R62 r) (.run A62 []) s := by
 unfold Zm at h
 obtain ⟨h0, h1, h2⟩ := hs
 refine .seq (rg (g0 (jb false) fun h6 => gq (.nsq (.seq (.seq (rg (g0 (ji 0) fun h7 => gq (.nsq (.block (.loop ?_))))))))))
 exact zfz H x_1 x_2 x_3 F 0 _ ⟨h0, h1, h2, h6, h7⟩ h
end
def e62 (F : Nat) : Ent := ent 62 (fun (x : (LI × Int × Int × Unit)) => Zm F x.1 x.2.1 x.2.2.1) (fun (r : Bool) => (Enc.enc (r : Bool))) 0 false []
abbrev C62 (D : List V → Option V) (F : Nat) : Prop := ∀ (x0 : LI) (x1 : Int) (x2 : Int) r, Zm F x0 x1 x2 = some r → D [Enc.enc x0, Enc.enc x1, Enc.enc x2] = some (Enc.enc (r : Bool))
theorem p62 {F : Nat} : C62 (e62 F).den F := fun x0 x1 x2 _ h => zJ (x0, x1, x2, ()) h
theorem o62 {D : Den} {σ : Sig} {F : Nat} (hF : zu Try.prog D σ) (H : H62 D σ F) : (e62 F).Ok Try.prog := by
 refine yd (f := 62) (show unk 62 = 62 from rfl) (fun args r h => ?_) ⟨Try.f62, Try.func62, rfl, rfl⟩
 obtain ⟨⟨x0, x1, x2, _⟩, y, rfl, hy, rfl⟩ := zH h
 exact zk hF (by kernel_rfl) Try.func62 rfl c62 (show 3 ≤ Try.f62.ntmps by decide) (t62 H x0 x1 x2 _ ⟨rfl, rfl, rfl⟩ hy)
def znr : AC := (.seq (.reg [] [jm 5 1, jv 6 (.fld (.t 2) 0 0), jv 7 (.load .s (.t 6)), jv 8 (.bin .sub (.t 7) (jn 1)), jx 9 (.call (jf 62) [.t 5, jn 0, .t 8]), jm 4 9] []) .ret)
def A43 : AC := (.seq (.reg [.clr [2]] [jx 2 (.box (.t 0)), jv 4 (.mov kf)] []) znr)
def zq8 : List An := [⟨0, [.clr [2]], [], [], []⟩]
theorem c43 : cC Try.prog Try.f43.ntmps zq8 (Try.f43.body.getD .skip) = some A43 := by kernel_rfl
structure H43 (D : Den) (σ : Sig) (F : Nat) : Prop where
 c62 : C62 (D 62) F
 g62 : σ 62 = some (0, false)
abbrev R43 (r : Bool) : (Nat → V) → Prop := RR Try.prog [.tmp 4] 0 false (Enc.enc (r : Bool))
section
variable {D : Den} {σ : Sig} {F : Nat} {r : Bool}
def XD (F : Nat) (x_1 : GR) (x_2 : LI) : Option Bool :=
 (Zm F x_2 0 (w64 (x_1.1 - 1))).bind fun r_3 =>
 some r_3
theorem t43 (H : H43 D σ F) (x_1 : GR) (x_2 : LI) (s : Nat → V) (hs : zl [(0, gV x_1), (1, eL x_2)] s) (h : XD F x_1 x_2 = some r) : Run D σ (R43 r) (.run A43 []) s := by
 unfold XD at h
 obtain ⟨h0, h1⟩ := hs
 refine .seq (zt (zR ?_))
 refine ez [(0, _), (1, _), (2, _)] ⟨za h0 rfl mIE, za h1 rfl me, zb rfl⟩ ?_
 rintro s ⟨h0, h1, h2⟩
 refine xB (gV x_1) (zy h0 rfl) h2 rfl (g0 (jb false) fun h4 => gq (.nsq (.seq (rg (gm h1 fun h5 => g1 2 (.ref (.bx 2) 0 [0] (ji x_1.1)) (rf (bG 2 x_1)) fun h6 => g1 6 (ji x_1.1) h6 fun h7 => g1 7 (ji (w64 (x_1.1 - 1))) h7 fun h8 => ?_)))))
 obtain ⟨r_3, E_r_3, h⟩ := bind_some h
 refine zB (m := 0) (al := false) (r := Enc.enc (r_3 : Bool)) [eL x_2, Enc.enc (0 : Int), Enc.enc (w64 (x_1.1 - 1) : Int)] (zd (v := eL x_2) h5 rfl (Enc.erase_enc (x_2 : LI)) (zd (v := ji 0) rfl rfl rfl (zd (v := ji (w64 (x_1.1 - 1))) h8 rfl rfl zw))) (H.c62 _ _ _ _ E_r_3) H.g62 rfl rfl rfl rfl (gm (rf (jb r_3)) fun h4 => gq (.nsq (.ret ?_)))
 have hr := Option.some.inj h
 subst hr
 exact rrA (zf h4) rfl
end
def e43 (F : Nat) : Ent := ent 43 (fun (x : (GR × LI × Unit)) => XD F x.1 x.2.1) (fun (r : Bool) => (Enc.enc (r : Bool))) 0 false []
abbrev C43 (D : List V → Option V) (F : Nat) : Prop := ∀ (x0 : GR) (x1 : LI) r, XD F x0 x1 = some r → D [Enc.enc x0, Enc.enc x1] = some (Enc.enc (r : Bool))
theorem p43 {F : Nat} : C43 (e43 F).den F := fun x0 x1 _ h => zJ (x0, x1, ()) h
theorem o43 {D : Den} {σ : Sig} {F : Nat} (hF : zu Try.prog D σ) (H : H43 D σ F) : (e43 F).Ok Try.prog := by
 refine yd (f := 43) (show unk 43 = 43 from rfl) (fun args r h => ?_) ⟨Try.f43, Try.func43, rfl, rfl⟩
 obtain ⟨⟨x0, x1, _⟩, y, rfl, hy, rfl⟩ := zH h
 exact zk hF (by kernel_rfl) Try.func43 rfl c43 (show 2 ≤ Try.f43.ntmps by decide) (t43 H x0 x1 _ ⟨rfl, rfl⟩ hy)
def zh9 : AC := (.cond (.t 14) (.seq (.reg [.clr [15]] [jx 15 (.lit i0 0 []), jm 4 15, jv 5 (.mov kf)] [.home 15 4]) .ret) .skip)
def ziP : AC := (.seq (.reg [] [jv 16 (.load (.ag [.s, .p]) (.t 2)), jm 17 1, jx 18 (.call (jf 27) [.t 16, .t 17]), jm 4 18, jv 5 (.mov kt)] []) .ret)
def zpl : AC := (.seq (.seq (.reg [] [jv 6 (.load (.ag [.s, .p]) (.t 2)), jx 7 (.call (jf 25) [.t 6]), jv 8 (.un .not (.t 7)), jm 9 8, jg 10 9 false (.load (.ag [.s, .p]) (.t 2)), jg 11 9 false (.mov (.t 1)), .mk (some 12) (some (9, false)) false (.call (jf 43) [.t 10, .t 11]), jg 13 9 false (.un .not (.t 12)), jv 14 (.pick (.t 9) kt (.t 13))] []) zh9) ziP)
def A19 : AC := (.seq (.reg [.clr [2]] [jx 2 (.box (.t 0)), jv 4 (.mov (.k (.sl .nl .s 0 []))), jv 5 (.mov kf)] []) zpl)
def zqU : List An := [⟨0, [.clr [2]], [], [], []⟩, ⟨2, [.clr [15]], [], [], [.home 15 4]⟩]
theorem c19 : cC Try.prog Try.f19.ntmps zqU (Try.f19.body.getD .skip) = some A19 := by kernel_rfl
structure H19 (D : Den) (σ : Sig) (F : Nat) : Prop where
 c25 : C25 (D 25) F
 g25 : σ 25 = some (0, false)
 c43 : C43 (D 43) F
 g43 : σ 43 = some (0, false)
 c27 : C27 (D 27) F
 g27 : σ 27 = some (0, true)
abbrev R19 (r : (LI × Bool)) : (Nat → V) → Prop := RR Try.prog [.tmp 4, .tmp 5] 0 true (.tup [eL r.1, Enc.enc (r.2 : Bool)])
section
variable {D : Den} {σ : Sig} {F : Nat} {r : (LI × Bool)}
def u6 (F : Nat) (x_2 : LI) (x_1 : GR)  (x_5 : Bool) : Option (LI × Bool) :=
 bif x_5 then
  some ([], false)
 else
  (xx F x_1 x_2).bind fun r_6 =>
  some (r_6, true)
theorem zaj (H : H19 D σ F) (x_2 : LI) (x_1 : GR)  (x_5 : Bool) (s : Nat → V) (hs : zl [(1, eL x_2), (2, bG 2 x_1), (4, nI), (5, jb false), (14, jb x_5)] s) (h : u6 F x_2 x_1  x_5 = some r) : Run D σ (R19 r) (.nrm [.sq zh9, .sq ziP]) s := by
 unfold u6 at h
 obtain ⟨h1, h2, h4, h5, h14⟩ := hs
 refine .nsq (zi (t := x_5) h14 h (fun h => ?_) (fun h => ?_))
 · refine .seq (zt (zR ?_))
   refine ez [(1, _), (2, _), (4, _), (5, _), (15, _)] ⟨za h1 rfl me, za h2 rfl (zh rfl mIE), za h4 rfl rfl, za h5 rfl mb, zb rfl⟩ ?_
   rintro s ⟨h1, h2, h4, h5, h15⟩
   refine xf [] [] trivial rfl rfl h15 (gm (rf (oI 15 [] (.of []))) fun h4 => g0 (jb false) fun h5 => yE (yq (r := 15) (x := 4) (v := _) h4 rfl (fun s_5 hg_5 => ?_)))
   refine ez [(1, eL x_2), (2, bG 2 x_1), (4, oI 4 [] (.of [])), (5, jb false)] ⟨hg_5 1 _ _ h1 me, hg_5 2 _ _ h2 (zh rfl mIE), hg_5 4 _ _ h4 (zm (r := 15) (p := []) rfl rfl), hg_5 5 _ _ h5 mb⟩ ?_
   rintro s ⟨h1, h2, h4, h5⟩
   refine .nsq (.ret ?_)
   have hr := Option.some.inj h
   subst hr
   exact rrB (zf h4) (zf h5) (xL (wo (zY (wz (o := .of [])) (zY (yO (x := (false : Bool))) xv))))
 refine .skip (.nsq (.seq (rg (g1 2 (gV x_1) h2 fun h16 => gm h1 fun h17 => ?_))))
 obtain ⟨r_6, E_r_6, h⟩ := bind_some h
 refine zB (m := 0) (al := true) (r := eL r_6) [Enc.enc (x_1 : GR), eL x_2] (zd (v := gV x_1) h16 rfl (Enc.erase_enc (x_1 : GR)) (zd (v := eL x_2) h17 rfl (Enc.erase_enc (x_2 : LI)) zw)) (H.c27 _ _ _ E_r_6) H.g27 (Zd (xk (v := gV x_1) h16 rfl rfl (xk (v := eL x_2) h17 rfl rfl uV))) rfl rfl rfl (gm (rf (eL r_6)) fun h4 => g0 (jb true) fun h5 => gq (.nsq (.ret ?_)))
 have hr := Option.some.inj h
 subst hr
 exact rrB (zf h4) (zf h5) (xL (wo (zY (yO (x := (r_6 : LI))) (zY (yO (x := (true : Bool))) xv))))
def ZA (F : Nat) (x_1 : GR) (x_2 : LI) : Option (LI × Bool) :=
 (vf F x_1).bind fun r_7 =>
 bif (!r_7) then
  u6 F x_2 x_1 true
 else
  (XD F x_1 x_2).bind fun r_8 =>
  u6 F x_2 x_1 (!r_8)
theorem t19 (H : H19 D σ F) (x_1 : GR) (x_2 : LI) (s : Nat → V) (hs : zl [(0, gV x_1), (1, eL x_2)] s) (h : ZA F x_1 x_2 = some r) : Run D σ (R19 r) (.run A19 []) s := by
 unfold ZA at h
 obtain ⟨h0, h1⟩ := hs
 refine .seq (zt (zR ?_))
 refine ez [(0, _), (1, _), (2, _)] ⟨za h0 rfl mIE, za h1 rfl me, zb rfl⟩ ?_
 rintro s ⟨h0, h1, h2⟩
 refine xB (gV x_1) (zy h0 rfl) h2 rfl (g0 nI fun h4 => g0 (jb false) fun h5 => gq (.nsq (.seq (.seq (rg (g1 2 (gV x_1) (rf (bG 2 x_1)) fun h6 => ?_))))))
 obtain ⟨r_7, E_r_7, h⟩ := bind_some h
 refine zB (m := 0) (al := false) (r := Enc.enc (r_7 : Bool)) [Enc.enc (x_1 : GR)] (zd (v := gV x_1) h6 rfl (Enc.erase_enc (x_1 : GR)) zw) (H.c25 _ _ E_r_7) H.g25 rfl rfl rfl rfl (g1 7 (jb (!r_7)) (rf (jb r_7)) fun h8 => gm h8 fun h9 => zP (c := (!r_7)) h (fun hg4 h => ?_) (fun hg4 h => ?_))
 · iterate 4 refine ym (ct h9 hg4) ?_
   refine g2 9 13 (jb true) (ct h9 hg4) (rf (.tup [])) fun h14 => gq ?_
   exact zaj H x_2 x_1 true _ ⟨h1, rfl, h4, h5, h14⟩ h
 refine zg (ct h9 hg4) (g1 2 (gV x_1) (rf (bG 2 x_1)) fun h10 => zg (ct h9 hg4) (gm h1 fun h11 => ?_))
 obtain ⟨r_8, E_r_8, h⟩ := bind_some h
 refine zg (ct h9 hg4) (zB (m := 0) (al := false) (r := Enc.enc (r_8 : Bool)) [Enc.enc (x_1 : GR), eL x_2] (zd (v := gV x_1) h10 rfl (Enc.erase_enc (x_1 : GR)) (zd (v := eL x_2) h11 rfl (Enc.erase_enc (x_2 : LI)) zw)) (H.c43 _ _ _ E_r_8) H.g43 rfl rfl rfl rfl (zg (ct h9 hg4) (g1 12 (jb (!r_8)) (rf (jb r_8)) fun h13 => g2 9 13 (jb (!r_8)) (ct h9 hg4) h13 fun h14 => gq ?_)))
 exact zaj H x_2 x_1 (!r_8) _ ⟨h1, rfl, h4, h5, h14⟩ h
end
def e19 (F : Nat) : Ent := ent 19 (fun (x : (GR × LI × Unit)) => ZA F x.1 x.2.1) (fun (r : (LI × Bool)) => (.tup [eL r.1, Enc.enc (r.2 : Bool)])) 0 true []
abbrev C19 (D : List V → Option V) (F : Nat) : Prop := ∀ (x0 : GR) (x1 : LI) r, ZA F x0 x1 = some r → D [Enc.enc x0, Enc.enc x1] = some (.tup [eL r.1, Enc.enc (r.2 : Bool)])
theorem p19 {F : Nat} : C19 (e19 F).den F := fun x0 x1 _ h => zJ (x0, x1, ()) h
theorem o19 {D : Den} {σ : Sig} {F : Nat} (hF : zu Try.prog D σ) (H : H19 D σ F) : (e19 F).Ok Try.prog := by
 refine yd (f := 19) (show unk 19 = 19 from rfl) (fun args r h => ?_) ⟨Try.f19, Try.func19, rfl, rfl⟩
 obtain ⟨⟨x0, x1, _⟩, y, rfl, hy, rfl⟩ := zH h
 exact zk hF (by kernel_rfl) Try.func19 rfl c19 (show 2 ≤ Try.f19.ntmps by decide) (t19 H x0 x1 _ ⟨rfl, rfl⟩ hy)
def zqv : AC := (.cond (.t 175) .skip (.exit 0))
def zp2 : AC := (.cond (.t 183) (.reg [] [jm 184 25, jm 185 28, jv 186 (.idx (.t 184) (.t 185) 1), jv 187 (.load .s (.t 186)), jm 27 187] []) .skip)
def zl8 : AC := (.reg [] [jm 176 28, jv 177 (.bin .add (.t 176) (jn 1)), jm 28 177] [])
def zp7 : AC := (.seq (.block 1 (.seq (.reg [] [jm 178 25, jm 179 28, jv 180 (.idx (.t 178) (.t 179) 1), jv 181 (.load .s (.t 180)), jm 182 27, jv 183 (.bin .gtr (.t 181) (.t 182))] []) zp2)) zl8)
def zdC : AC := (.seq (.seq (.reg [] [jm 172 28, jm 173 25, jv 174 (.len (.t 173)), jv 175 (.bin .lss (.t 172) (.t 174))] []) zqv) zp7)
def zlm : AC := (.cond (.t 199) (.seq (.reg [] [jv 2 (.mov kf)] []) .ret) .skip)
def zrl : AC := (.cond (.t 201) (.seq (.reg [] [jv 2 (.mov kt)] []) .ret) .skip)
def zmM : AC := (.cond (.t 206) .skip (.exit 2))
def znh : AC := (.cond (.t 214) (.reg [] [jm 215 5, jm 216 31, jv 217 (.idx (.t 215) (.t 216) 1), jv 218 (.load .s (.t 217)), jm 29 218] []) .skip)
def zmH : AC := (.cond (.t 223) .skip (.exit 4))
def ziD : AC := (.cond (.t 236) (.reg [.clr [239, 240]] [jm 237 32, jm 238 33, jx 239 (.lit i0 1 [(0, 0, .t 238)]), jx 240 (.app .s (.t 237) (.t 239)), jm 32 240] [.home 240 32]) .skip)
def zfE : AC := (.reg [] [jm 224 33, jv 225 (.bin .add (.t 224) (jn 1)), jm 33 225] [])
def znO : AC := (.seq (.block 5 (.seq (.reg [] [jm 226 30, jm 227 33, jx 228 (.call (jf 17) [.t 226, .t 227]), jm 229 228, jg 230 229 false (.mov (.t 33)), jg 231 229 false (.mov (.t 4)), jg 232 229 false (.mov (.t 31)), jg 233 229 false (.idx (.t 231) (.t 232) 1), jg 234 229 false (.load .s (.t 233)), jg 235 229 false (.bin .eql (.t 230) (.t 234)), jv 236 (.pick (.t 229) kt (.t 235))] []) ziD)) zfE)
def Um : AC := (.seq (.seq (.reg [] [jm 220 33, jv 221 (.fld (.t 3) 0 0), jv 222 (.load .s (.t 221)), jv 223 (.bin .lss (.t 220) (.t 222))] []) zmH) znO)
def zpP : AC := (.block 4 (.loop Um))
def zhZ : AC := (.cond (.t 274) (.seq (.reg [] [jv 2 (.mov kf)] []) .ret) .skip)
def zpK : AC := (.seq (.reg [] [jm 254 35, jv 255 (.un .not (.t 254)), jm 256 255, jg 257 256 false (.mov (.t 37)), jg 258 256 false (.un .not (.t 257)), jv 259 (.pick (.t 256) kt (.t 258)), jm 260 259, jg 261 260 false (.mov (.t 34)), jg 262 260 false (.mov (.t 36)), .mk (some 263) (some (260, false)) false (.call (jf 8) [.t 261, .t 262]), jg 264 260 false (.un .not (.t 263)), jv 265 (.pick (.t 260) kt (.t 264)), jm 266 265, jg 267 266 false (.mov (.t 34)), jg 268 266 false (.len (.t 267)), jg 269 266 false (.mov (.t 5)), jg 270 266 false (.mov (.t 31)), jg 271 266 false (.idx (.t 269) (.t 270) 1), jg 272 266 false (.load .s (.t 271)), jg 273 266 false (.bin .neq (.t 268) (.t 272)), jv 274 (.pick (.t 266) kt (.t 273))] []) zhZ)
def zpF : AC := (.seq (.reg [] [jv 249 (.load (.ag [.s, .p]) (.t 3)), jm 250 30, jx 251 (.call (jf 19) [.t 249, .t 250]), jm 248 251, jv 252 (.ext (.t 248) 0), jv 253 (.extS (.t 248) 1), jm 36 252, jm 37 253] []) zpK)
def znX : AC := (.seq (.reg [.frz 30] [jv 243 (.load (.ag [.s, .p]) (.t 3)), jm 244 30, jx 245 (.call (jf 18) [.t 243, .t 244]), jm 242 245, jv 246 (.ext (.t 242) 0), jv 247 (.extS (.t 242) 1), jm 34 246, jm 35 247] []) zpF)
def LX : AC := (.seq (.reg [] [jm 241 32, jm 30 241] [.home 32 30]) znX)
def zog : AC := (.seq (.seq (.reg [] [jv 33 (.mov (jn 0))] []) zpP) LX)
def zie : AC := (.seq (.reg [.clr [219]] [jx 219 (.lit i0 0 []), jm 32 219] [.home 219 32]) zog)
def JY : AC := (.reg [] [jm 207 31, jv 208 (.bin .add (.t 207) (jn 1)), jm 31 208] [])
def zk0 : AC := (.seq (.block 3 (.seq (.seq (.reg [] [jm 209 5, jm 210 31, jv 211 (.idx (.t 209) (.t 210) 1), jv 212 (.load .s (.t 211)), jm 213 29, jv 214 (.bin .gtr (.t 212) (.t 213))] []) znh) zie)) JY)
def uK : AC := (.seq (.seq (.reg [] [jm 203 31, jm 204 5, jv 205 (.len (.t 204)), jv 206 (.bin .lss (.t 203) (.t 205))] []) zmM) zk0)
def zpc : AC := (.block 2 (.loop uK))
def YM : AC := (.seq (.reg [] [jm 275 29, jm 276 13, jv 277 (.bin .geq (.t 275) (.t 276)), jm 2 277] []) .ret)
def zpX : AC := (.seq (.seq (.reg [] [jv 31 (.mov (jn 0))] [.frz 30]) zpc) YM)
def zlV : AC := (.seq (.reg [.clr [202]] [jx 202 (.lit i0 0 []), jv 29 (.mov (jn 0)), jm 30 202] [.home 202 30]) zpX)
def zpf : AC := (.seq (.seq (.reg [] [jm 200 6, jv 201 (.un .not (.t 200))] []) zrl) zlV)
def zhw : AC := (.seq (.seq (.reg [] [jm 188 26, jv 189 (.un .not (.t 188)), jm 190 189, jg 191 190 false (.mov (.t 27)), jg 192 190 false (.mov (.t 13)), jg 193 190 false (.bin .neq (.t 191) (.t 192)), jv 194 (.pick (.t 190) kt (.t 193)), jm 195 194, jg 196 195 false (.mov (.t 21)), jg 197 195 false (.mov (.t 13)), jg 198 195 false (.bin .gtr (.t 196) (.t 197)), jv 199 (.pick (.t 195) kt (.t 198))] []) zlm) zpf)
def ziv : AC := (.cond (.t 163) (.seq (.reg [] [jv 2 (.mov kf)] []) .ret) .skip)
def znm : AC := (.cond (.t 165) (.seq (.reg [] [jv 2 (.mov kt)] []) .ret) .skip)
def zm0 : AC := (.block 0 (.loop zdC))
def zpI : AC := (.seq (.seq (.reg [] [jv 28 (.mov (jn 0))] []) zm0) zhw)
def znp : AC := (.seq (.reg [] [jv 27 (.mov (jn 0))] []) zpI)
def znV : AC := (.seq (.reg [] [jv 167 (.load (.ag [.s, .p]) (.t 3)), jm 168 17, jx 169 (.call (jf 6) [.t 167, .t 168]), jm 166 169, jv 170 (.ext (.t 166) 0), jv 171 (.extS (.t 166) 1), jm 25 170, jm 26 171] []) znp)
def zig : AC := (.seq (.seq (.reg [] [jm 164 10, jv 165 (.un .not (.t 164))] []) znm) znV)
def ziR : AC := (.cond (.t 140) (.seq (.reg [] [jv 2 (.mov kf)] []) .ret) .skip)
def zpH : AC := (.seq (.reg [] [jm 151 21, jm 152 23, jv 153 (.bin .neq (.t 151) (.t 152)), jm 154 153, jg 155 154 false (.mov (.t 22)), jg 156 154 false (.mov (.t 24)), jg 157 154 false (.beq true (.t 155) (.t 156)), jv 158 (.pick (.t 154) kt (.t 157)), jm 159 158, jg 160 159 false (.mov (.t 22)), jg 161 159 false (.mov (.t 10)), jg 162 159 false (.beq true (.t 160) (.t 161)), jv 163 (.pick (.t 159) kt (.t 162))] []) ziv)
def zlv : AC := (.seq (.seq (.reg [] [jv 147 (.load (.ag [.s, .p]) (.t 3)), jx 148 (.call (jf 16) [.t 147]), jm 146 148, jv 149 (.extS (.t 146) 0), jv 150 (.extS (.t 146) 1), jm 23 149, jm 24 150] []) zpH) zig)
def zh2 : AC := (.seq (.reg [] [jv 142 (.load (.ag [.s, .p]) (.t 3)), jx 143 (.call (jf 15) [.t 142]), jm 141 143, jv 144 (.extS (.t 141) 0), jv 145 (.extS (.t 141) 1), jm 21 144, jm 22 145] []) zlv)
def ziO : AC := (.cond (.t 116) (.seq (.reg [] [jv 2 (.mov kf)] []) .ret) .skip)
def zoH : AC := (.seq (.reg [] [jm 127 18, jm 128 20, jv 129 (.beq true (.t 127) (.t 128)), jm 130 129, jg 131 130 false (.mov (.t 18)), jg 132 130 false (.mov (.t 10)), jg 133 130 false (.beq true (.t 131) (.t 132)), jv 134 (.pick (.t 130) kt (.t 133)), jm 135 134, jg 136 135 false (.mov (.t 17)), jg 137 135 false (.mov (.t 19)), .mk (some 138) (some (135, false)) false (.call (jf 8) [.t 136, .t 137]), jg 139 135 false (.un .not (.t 138)), jv 140 (.pick (.t 135) kt (.t 139))] []) ziR)
def znj : AC := (.seq (.seq (.reg [] [jv 123 (.load (.ag [.s, .p]) (.t 3)), jx 124 (.call (jf 14) [.t 123]), jm 122 124, jv 125 (.ext (.t 122) 0), jv 126 (.extS (.t 122) 1), jm 19 125, jm 20 126] []) zoH) zh2)
def zh5 : AC := (.seq (.reg [] [jv 118 (.load (.ag [.s, .p]) (.t 3)), jx 119 (.call (jf 13) [.t 118]), jm 117 119, jv 120 (.ext (.t 117) 0), jv 121 (.extS (.t 117) 1), jm 17 120, jm 18 121] []) znj)
def ziE : AC := (.cond (.t 93) (.seq (.reg [] [jv 2 (.mov kf)] []) .ret) .skip)
def zoW : AC := (.seq (.reg [] [jm 104 13, jm 105 15, jv 106 (.bin .neq (.t 104) (.t 105)), jm 107 106, jg 108 107 false (.mov (.t 14)), jg 109 107 false (.mov (.t 16)), jg 110 107 false (.beq true (.t 108) (.t 109)), jv 111 (.pick (.t 107) kt (.t 110)), jm 112 111, jg 113 112 false (.mov (.t 14)), jg 114 112 false (.mov (.t 10)), jg 115 112 false (.beq true (.t 113) (.t 114)), jv 116 (.pick (.t 112) kt (.t 115))] []) ziO)
def zns : AC := (.seq (.seq (.reg [] [jv 100 (.load (.ag [.s, .p]) (.t 3)), jx 101 (.call (jf 12) [.t 100]), jm 99 101, jv 102 (.extS (.t 99) 0), jv 103 (.extS (.t 99) 1), jm 15 102, jm 16 103] []) zoW) zh5)
def zh6 : AC := (.seq (.reg [] [jv 95 (.load (.ag [.s, .p]) (.t 3)), jx 96 (.call (jf 11) [.t 95]), jm 94 96, jv 97 (.extS (.t 94) 0), jv 98 (.extS (.t 94) 1), jm 13 97, jm 14 98] []) zns)
def ziz : AC := (.cond (.t 65) (.seq (.reg [] [jv 2 (.mov kf)] []) .ret) .skip)
def zk6 : AC := (.seq (.reg [] [jm 78 9, jm 79 11, jv 80 (.beq true (.t 78) (.t 79)), jm 81 80, jg 82 81 false (.mov (.t 10)), jg 83 81 false (.mov (.t 12)), jg 84 81 false (.beq true (.t 82) (.t 83)), jv 85 (.pick (.t 81) kt (.t 84)), jm 86 85, jg 87 86 false (.mov (.t 6)), jg 88 86 false (.mov (.t 10)), jg 89 86 false (.mov (.t 88)), jg 90 89 true (.mov (.t 9)), jg 91 86 false (.pick (.t 89) (.t 90) kf), jg 92 86 false (.beq true (.t 87) (.t 91)), jv 93 (.pick (.t 86) kt (.t 92))] []) ziE)
def zlx : AC := (.seq (.seq (.reg [] [jv 73 (.load (.ag [.s, .p]) (.t 3)), jm 74 4, jx 75 (.call (jf 10) [.t 73, .t 74]), jm 72 75, jv 76 (.extS (.t 72) 0), jv 77 (.extS (.t 72) 1), jm 11 76, jm 12 77] []) zk6) zh6)
def zit : AC := (.seq (.reg [] [jv 67 (.load (.ag [.s, .p]) (.t 3)), jm 68 4, jx 69 (.call (jf 9) [.t 67, .t 68]), jm 66 69, jv 70 (.extS (.t 66) 0), jv 71 (.extS (.t 66) 1), jm 9 70, jm 10 71] []) zlx)
def zoZ : AC := (.cond (.t 39) (.seq (.reg [] [jv 2 (.mov kt)] []) .ret) .skip)
def zmI : AC := (.seq (.reg [] [jm 57 6, jm 58 8, jv 59 (.beq true (.t 57) (.t 58)), jm 60 59, jg 61 60 false (.mov (.t 5)), jg 62 60 false (.mov (.t 7)), .mk (some 63) (some (60, false)) false (.call (jf 8) [.t 61, .t 62]), jg 64 60 false (.un .not (.t 63)), jv 65 (.pick (.t 60) kt (.t 64))] []) ziz)
def zly : AC := (.seq (.seq (.reg [] [jv 52 (.load (.ag [.s, .p]) (.t 3)), jm 53 4, jx 54 (.call (jf 7) [.t 52, .t 53]), jm 51 54, jv 55 (.ext (.t 51) 0), jv 56 (.extS (.t 51) 1), jm 7 55, jm 8 56] []) zmI) zit)
def zpT : AC := (.seq (.reg [] [jv 46 (.load (.ag [.s, .p]) (.t 3)), jm 47 4, jx 48 (.call (jf 6) [.t 46, .t 47]), jm 45 48, jv 49 (.ext (.t 45) 0), jv 50 (.extS (.t 45) 1), jm 5 49, jm 6 50] []) zly)
def zlZ : AC := (.seq (.reg [.clr [3]] [jm 41 0, jx 42 (.call (jf 5) [.t 41]), jm 40 42, jv 43 (.ext (.t 40) 0), jv 44 (.ext (.t 40) 1), jx 3 (.alloc (.agg [i0, .sl .nl (.ag [.s, .s]) 0 []])), jz (.store (.ag [.s, .p]) (.t 3) (.t 43)), jm 4 44] []) zpT)
def zoq : AC := (.seq (.seq (.reg [] [jm 38 0, jx 39 (.call (jf 4) [.t 38])] []) zoZ) zlZ)
def A3 : AC := (.seq (.reg [] [jv 2 (.mov kf)] []) zoq)
def an3 : List An := [⟨3, [.clr [3]], [], [], []⟩, ⟨37, [.clr [202]], [], [], [.home 202 30]⟩, ⟨38, [], [], [], [.frz 30]⟩, ⟨43, [.clr [219]], [], [], [.home 219 32]⟩, ⟨48, [.clr [239, 240]], [], [], [.home 240 32]⟩, ⟨49, [], [], [], [.home 32 30]⟩, ⟨50, [.frz 30], [], [], []⟩]
theorem c3 : cC Try.prog Try.f3.ntmps an3 (Try.f3.body.getD .skip) = some A3 := by kernel_rfl
structure H3 (D : Den) (σ : Sig) (F : Nat) : Prop where
 c4 : C4 (D 4) F
 g4 : σ 4 = some (0, false)
 c5 : C5 (D 5) F
 g5 : σ 5 = some (0, true)
 c6 : C6 (D 6) F
 g6 : σ 6 = some (0, false)
 c7 : C7 (D 7) F
 g7 : σ 7 = some (0, false)
 c8 : C8 (D 8) F
 g8 : σ 8 = some (0, false)
 c9 : C9 (D 9) F
 g9 : σ 9 = some (0, false)
 c10 : C10 (D 10) F
 g10 : σ 10 = some (0, false)
 c11 : C11 (D 11) F
 g11 : σ 11 = some (0, false)
 c12 : C12 (D 12) F
 g12 : σ 12 = some (0, false)
 c13 : C13 (D 13) F
 g13 : σ 13 = some (0, true)
 c14 : C14 (D 14) F
 g14 : σ 14 = some (0, true)
 c15 : C15 (D 15) F
 g15 : σ 15 = some (0, false)
 c16 : C16 (D 16) F
 g16 : σ 16 = some (0, false)
 c17 : C17 (D 17) F
 g17 : σ 17 = some (0, false)
 c18 : C18 (D 18) F
 g18 : σ 18 = some (0, true)
 c19 : C19 (D 19) F
 g19 : σ 19 = some (0, true)
abbrev R3 (r : Bool) : (Nat → V) → Prop := RR Try.prog [.tmp 2] 0 false (Enc.enc (r : Bool))
section
variable {D : Den} {σ : Sig} {F : Nat} {r : Bool}
def vH (F : Nat) (r_3 : (GR × LI)) (r_4 : (LI × Bool)) (r_12 : (Int × Bool)) (r_19 : (Int × Bool)) (r_22 : (LI × Bool)) (x_28 : Int) (c1 : Int → Int → Option Bool) (x_35 : Int) : Option Bool :=
 c1 x_35 (w64 (x_28 + 1))
theorem zcr (H : H3 D σ F) (r_3 : (GR × LI)) (r_4 : (LI × Bool)) (r_12 : (Int × Bool)) (r_19 : (Int × Bool)) (r_22 : (LI × Bool)) (x_28 : Int) (c1 : Int → Int → Option Bool) (Hc1 : ∀ (x_27 : Int) (x_28 : Int) (s : Nat → V), zl [(2, jb false), (3, bG 3 r_3.1), (4, eL r_3.2), (5, eL r_4.1), (6, jb r_4.2), (13, ji r_12.1), (21, ji r_19.1), (25, eL r_22.1), (26, jb r_22.2), (27, ji x_27), (28, ji x_28)] s → c1 x_27 x_28 = some r → Run D σ (R3 r) (.run zdC [.lp zdC, .bk 0, .sq zhw]) s) (x_35 : Int) (s : Nat → V) (hs : zl [(2, jb false), (3, bG 3 r_3.1), (4, eL r_3.2), (5, eL r_4.1), (6, jb r_4.2), (13, ji r_12.1), (21, ji r_19.1), (25, eL r_22.1), (26, jb r_22.2), (27, ji x_35), (28, ji x_28)] s) (h : vH F r_3 r_4 r_12 r_19 r_22 x_28 c1 x_35 = some r) : Run D σ (R3 r) (.nrm [.bk 1, .sq zl8, .lp zdC, .bk 0, .sq zhw]) s := by
 unfold vH at h
 obtain ⟨h2, h3, h4, h5, h6, h13, h21, h25, h26, h27, h28⟩ := hs
 refine .nbk (.nsq (rg (gm h28 fun h176 => g1 176 (ji (w64 (x_28 + 1))) h176 fun h177 => gm h177 fun h28 => gz [(2, _), (3, _), (4, _), (5, _), (6, _), (13, _), (21, _), (25, _), (26, _), (27, _), (28, _)] ⟨h2, h3, h4, h5, h6, h13, h21, h25, h26, h27, h28⟩ ?_)))
 rintro s ⟨h2, h3, h4, h5, h6, h13, h21, h25, h26, h27, h28⟩
 refine .nlp ?_
 exact Hc1 x_35 (w64 (x_28 + 1)) _ ⟨h2, h3, h4, h5, h6, h13, h21, h25, h26, h27, h28⟩ h
def vL (F : Nat) (r_3 : (GR × LI)) (r_4 : (LI × Bool)) (r_12 : (Int × Bool)) (x_117 : Int) (x_76 : LI) (x_77 : Int) (x_127 : Int) (c2 : Int → LI → Int → Option Bool) (c5 : LI → Int → Option Bool) (x_140 : LI) : Option Bool :=
 c5 x_140 (w64 (x_127 + 1))
theorem zbR (H : H3 D σ F) (r_3 : (GR × LI)) (r_4 : (LI × Bool)) (r_12 : (Int × Bool)) (x_117 : Int) (x_76 : LI) (x_77 : Int) (x_127 : Int) (c2 : Int → LI → Int → Option Bool) (Hc2 : ∀ (x_75 : Int) (x_76 : LI) (x_77 : Int) (s : Nat → V), zl [(2, jb false), (3, bG 3 r_3.1), (4, eL r_3.2), (5, eL r_4.1), (13, ji r_12.1), (29, ji x_75), (30, eL x_76), (31, ji x_77)] s → c2 x_75 x_76 x_77 = some r → Run D σ (R3 r) (.run uK [.lp uK, .bk 2, .sq YM]) s) (c5 : LI → Int → Option Bool) (Hc5 : ∀ (x_126 : LI) (x_127 : Int) (s : Nat → V), zl [(2, jb false), (3, bG 3 r_3.1), (4, eL r_3.2), (5, eL r_4.1), (13, ji r_12.1), (29, ji x_117), (30, eL x_76), (31, ji x_77), (32, oI 32 [] (.of x_126)), (33, ji x_127)] s → c5 x_126 x_127 = some r → Run D σ (R3 r) (.run Um [.lp Um, .bk 4, .sq LX, .bk 3, .sq JY, .lp uK, .bk 2, .sq YM]) s) (x_140 : LI) (s : Nat → V) (hs : zl [(2, jb false), (3, bG 3 r_3.1), (4, eL r_3.2), (5, eL r_4.1), (13, ji r_12.1), (29, ji x_117), (30, eL x_76), (31, ji x_77), (32, oI 32 [] (.of x_140)), (33, ji x_127)] s) (h : vL F r_3 r_4 r_12 x_117 x_76 x_77 x_127 c2 c5 x_140 = some r) : Run D σ (R3 r) (.nrm [.bk 5, .sq zfE, .lp Um, .bk 4, .sq LX, .bk 3, .sq JY, .lp uK, .bk 2, .sq YM]) s := by
 unfold vL at h
 obtain ⟨h2, h3, h4, h5, h13, h29, h30, h31, h32, h33⟩ := hs
 refine .nbk (.nsq (rg (gm h33 fun h224 => g1 224 (ji (w64 (x_127 + 1))) h224 fun h225 => gm h225 fun h33 => gq (.nlp ?_))))
 exact Hc5 x_140 (w64 (x_127 + 1)) _ ⟨h2, h3, h4, h5, h13, h29, h30, h31, h32, h33⟩ h
def wP (F : Nat) (r_3 : (GR × LI)) (r_4 : (LI × Bool)) (r_12 : (Int × Bool)) (x_117 : Int) (x_76 : LI) (x_77 : Int) (x_126 : LI) (x_127 : Int) (c2 : Int → LI → Int → Option Bool) (c5 : LI → Int → Option Bool) (x_138 : Bool) : Option Bool :=
 bif x_138 then
  (wM x_126 [x_127]).bind fun ap_141 =>
  vL F r_3 r_4 r_12 x_117 x_76 x_77 x_127 c2 c5 ap_141
 else
  vL F r_3 r_4 r_12 x_117 x_76 x_77 x_127 c2 c5 x_126
theorem zde (H : H3 D σ F) (r_3 : (GR × LI)) (r_4 : (LI × Bool)) (r_12 : (Int × Bool)) (x_117 : Int) (x_76 : LI) (x_77 : Int) (x_126 : LI) (x_127 : Int) (c2 : Int → LI → Int → Option Bool) (Hc2 : ∀ (x_75 : Int) (x_76 : LI) (x_77 : Int) (s : Nat → V), zl [(2, jb false), (3, bG 3 r_3.1), (4, eL r_3.2), (5, eL r_4.1), (13, ji r_12.1), (29, ji x_75), (30, eL x_76), (31, ji x_77)] s → c2 x_75 x_76 x_77 = some r → Run D σ (R3 r) (.run uK [.lp uK, .bk 2, .sq YM]) s) (c5 : LI → Int → Option Bool) (Hc5 : ∀ (x_126 : LI) (x_127 : Int) (s : Nat → V), zl [(2, jb false), (3, bG 3 r_3.1), (4, eL r_3.2), (5, eL r_4.1), (13, ji r_12.1), (29, ji x_117), (30, eL x_76), (31, ji x_77), (32, oI 32 [] (.of x_126)), (33, ji x_127)] s → c5 x_126 x_127 = some r → Run D σ (R3 r) (.run Um [.lp Um, .bk 4, .sq LX, .bk 3, .sq JY, .lp uK, .bk 2, .sq YM]) s) (x_138 : Bool) (s : Nat → V) (hs : zl [(2, jb false), (3, bG 3 r_3.1), (4, eL r_3.2), (5, eL r_4.1), (13, ji r_12.1), (29, ji x_117), (30, eL x_76), (31, ji x_77), (32, oI 32 [] (.of x_126)), (33, ji x_127), (236, jb x_138)] s) (h : wP F r_3 r_4 r_12 x_117 x_76 x_77 x_126 x_127 c2 c5 x_138 = some r) : Run D σ (R3 r) (.nrm [.sq ziD, .bk 5, .sq zfE, .lp Um, .bk 4, .sq LX, .bk 3, .sq JY, .lp uK, .bk 2, .sq YM]) s := by
 unfold wP at h
 obtain ⟨h2, h3, h4, h5, h13, h29, h30, h31, h32, h33, h236⟩ := hs
 refine .nsq (zi (t := x_138) h236 h (fun h => ?_) (fun h => ?_))
 · refine zt (zR ?_)
   refine ez [(2, _), (3, _), (4, _), (5, _), (13, _), (29, _), (30, _), (31, _), (32, _), (33, _), (239, _), (240, _)] ⟨za h2 rfl mb, za h3 rfl (zh rfl mIE), za h4 rfl me, za h5 rfl me, za h13 rfl mi, za h29 rfl mi, za h30 rfl me, za h31 rfl mi, za h32 rfl (zm (r := 32) (p := []) rfl rfl), za h33 rfl mi, zb rfl, zb rfl⟩ ?_
   rintro s ⟨h2, h3, h4, h5, h13, h29, h30, h31, h32, h33, h239, h240⟩
   refine gm h32 fun h237 => gm h33 fun h238 => xf [(238, ji x_127)] [Enc.enc (x_127 : Int)] h238 rfl rfl h239 ?_
   obtain ⟨ap_141, E_ap_141, h⟩ := bind_some h
   refine XZ (q := 32) (p := []) (o := .of (x_126 : LI)) (ys := ([x_127] : LI)) (t2 := .at 239 []) (lo2 := 0) h237 rfl rfl h240 (ZV (o := .of (x_126 : LI)) E_ap_141 trivial) (fun s_67 ha_67 => gm (rf (oI 240 [] (.of ap_141))) fun h32 => yE (yq (r := 240) (x := 32) (v := _) h32 rfl (fun s_68 hg_68 => ?_)))
   refine ez [(2, jb false), (3, bG 3 r_3.1), (4, eL r_3.2), (5, eL r_4.1), (13, ji r_12.1), (29, ji x_117), (30, eL x_76), (31, ji x_77), (32, oI 32 [] (.of ap_141)), (33, ji x_127)] ⟨hg_68 2 _ _ (show s_67 2 = (jb false) from zU ha_67 h2 mb) mb, hg_68 3 _ _ (show s_67 3 = (bG 3 r_3.1) from zU ha_67 h3 (zh rfl mIE)) (zh rfl mIE), hg_68 4 _ _ (show s_67 4 = (eL r_3.2) from zU ha_67 h4 me) me, hg_68 5 _ _ (show s_67 5 = (eL r_4.1) from zU ha_67 h5 me) me, hg_68 13 _ _ (show s_67 13 = (ji r_12.1) from zU ha_67 h13 mi) mi, hg_68 29 _ _ (show s_67 29 = (ji x_117) from zU ha_67 h29 mi) mi, hg_68 30 _ _ (show s_67 30 = (eL x_76) from zU ha_67 h30 me) me, hg_68 31 _ _ (show s_67 31 = (ji x_77) from zU ha_67 h31 mi) mi, hg_68 32 _ _ h32 (zm (r := 240) (p := []) rfl rfl), hg_68 33 _ _ (show s_67 33 = (ji x_127) from zU ha_67 h33 mi) mi⟩ ?_
   rintro s ⟨h2, h3, h4, h5, h13, h29, h30, h31, h32, h33⟩
   exact zbR H r_3 r_4 r_12 x_117 x_76 x_77 x_127 c2 Hc2 c5 Hc5 ap_141 _ ⟨h2, h3, h4, h5, h13, h29, h30, h31, h32, h33⟩ h
 refine .skip ?_
 exact zbR H r_3 r_4 r_12 x_117 x_76 x_77 x_127 c2 Hc2 c5 Hc5 x_126 _ ⟨h2, h3, h4, h5, h13, h29, h30, h31, h32, h33⟩ h
def wk (F : Nat) (r_3 : (GR × LI)) (r_4 : (LI × Bool)) (r_12 : (Int × Bool)) (x_117 : Int) (x_126 : LI) (x_77 : Int) (c2 : Int → LI → Int → Option Bool) (x_148 : Bool) : Option Bool :=
 bif x_148 then
  some false
 else
  c2 x_117 x_126 (w64 (x_77 + 1))
theorem Ki (H : H3 D σ F) (r_3 : (GR × LI)) (r_4 : (LI × Bool)) (r_12 : (Int × Bool)) (x_117 : Int) (x_126 : LI) (x_77 : Int) (c2 : Int → LI → Int → Option Bool) (Hc2 : ∀ (x_75 : Int) (x_76 : LI) (x_77 : Int) (s : Nat → V), zl [(2, jb false), (3, bG 3 r_3.1), (4, eL r_3.2), (5, eL r_4.1), (13, ji r_12.1), (29, ji x_75), (30, eL x_76), (31, ji x_77)] s → c2 x_75 x_76 x_77 = some r → Run D σ (R3 r) (.run uK [.lp uK, .bk 2, .sq YM]) s) (x_148 : Bool) (s : Nat → V) (hs : zl [(2, jb false), (3, bG 3 r_3.1), (4, eL r_3.2), (5, eL r_4.1), (13, ji r_12.1), (29, ji x_117), (30, eL x_126), (31, ji x_77), (274, jb x_148)] s) (h : wk F r_3 r_4 r_12 x_117 x_126 x_77 c2 x_148 = some r) : Run D σ (R3 r) (.nrm [.sq zhZ, .bk 3, .sq JY, .lp uK, .bk 2, .sq YM]) s := by
 unfold wk at h
 obtain ⟨h2, h3, h4, h5, h13, h29, h30, h31, h274⟩ := hs
 refine .nsq (zi (t := x_148) h274 h (fun h => ?_) (fun h => ?_))
 · refine .seq (rg (g0 (jb false) fun h2 => gq (.nsq (.ret ?_))))
   have hr := Option.some.inj h
   subst hr
   exact rrA (zf h2) rfl
 refine .skip (.nbk (.nsq (rg (gm h31 fun h207 => g1 207 (ji (w64 (x_77 + 1))) h207 fun h208 => gm h208 fun h31 => gq (.nlp ?_)))))
 exact Hc2 x_117 x_126 (w64 (x_77 + 1)) _ ⟨h2, h3, h4, h5, h13, h29, h30, h31⟩ h
def yH (F : Nat) (r_3 : (GR × LI)) (r_4 : (LI × Bool)) (r_12 : (Int × Bool)) (x_117 : Int) (x_76 : LI) (x_77 : Int) (c2 : Int → LI → Int → Option Bool) : Nat → LI → Int → Option Bool
 | 0, _, _ => none
 | k + 1, x_126, x_127 =>
   bif decide (x_127 < r_3.1.1) then
    (Ui F x_76 x_127).bind fun r_142 =>
    bif r_142 then
     wP F r_3 r_4 r_12 x_117 x_76 x_77 x_126 x_127 c2 (yH F r_3 r_4 r_12 x_117 x_76 x_77 c2 k) true
    else
     (idx r_3.2 x_77).bind fun e_143 =>
     wP F r_3 r_4 r_12 x_117 x_76 x_77 x_126 x_127 c2 (yH F r_3 r_4 r_12 x_117 x_76 x_77 c2 k) (x_127 == e_143)
   else
    (uD F r_3.1 x_126).bind fun r_144 =>
    (ZA F r_3.1 x_126).bind fun r_145 =>
    bif (!r_144.2) then
     wk F r_3 r_4 r_12 x_117 x_126 x_77 c2 true
    else
     bif (!r_145.2) then
      wk F r_3 r_4 r_12 x_117 x_126 x_77 c2 true
     else
      (ul F r_144.1 r_145.1).bind fun r_149 =>
      bif (!r_149) then
       wk F r_3 r_4 r_12 x_117 x_126 x_77 c2 true
      else
       (idx r_4.1 x_77).bind fun e_150 =>
       wk F r_3 r_4 r_12 x_117 x_126 x_77 c2 ((r_144.1.length : Int) != e_150)
theorem zgN (H : H3 D σ F) (r_3 : (GR × LI)) (r_4 : (LI × Bool)) (r_12 : (Int × Bool)) (x_117 : Int) (x_76 : LI) (x_77 : Int) (c2 : Int → LI → Int → Option Bool) (Hc2 : ∀ (x_75 : Int) (x_76 : LI) (x_77 : Int) (s : Nat → V), zl [(2, jb false), (3, bG 3 r_3.1), (4, eL r_3.2), (5, eL r_4.1), (13, ji r_12.1), (29, ji x_75), (30, eL x_76), (31, ji x_77)] s → c2 x_75 x_76 x_77 = some r → Run D σ (R3 r) (.run uK [.lp uK, .bk 2, .sq YM]) s) : ∀ (k : Nat) (x_126 : LI) (x_127 : Int) (s : Nat → V), zl [(2, jb false), (3, bG 3 r_3.1), (4, eL r_3.2), (5, eL r_4.1), (13, ji r_12.1), (29, ji x_117), (30, eL x_76), (31, ji x_77), (32, oI 32 [] (.of x_126)), (33, ji x_127)] s → yH F r_3 r_4 r_12 x_117 x_76 x_77 c2 k x_126 x_127 = some r → Run D σ (R3 r) (.run Um [.lp Um, .bk 4, .sq LX, .bk 3, .sq JY, .lp uK, .bk 2, .sq YM]) s := by
 intro k
 induction k with
 | zero => intro x_126 x_127 s _ h; exact nm h
 | succ k ih =>
   intro x_126 x_127 s hs h
   rw [yH] at h
   obtain ⟨h2, h3, h4, h5, h13, h29, h30, h31, h32, h33⟩ := hs
   refine .seq (.seq (rg (gm h33 fun h220 => g1 3 (.ref (.bx 3) 0 [0] (ji r_3.1.1)) h3 fun h221 => g1 221 (ji r_3.1.1) h221 fun h222 => g2 220 222 (jb (decide (x_127 < r_3.1.1))) h220 h222 fun h223 => gq (.nsq (zi (t := decide (x_127 < r_3.1.1)) h223 h (fun h => ?_) (fun h => ?_))))))
   · refine .skip (.nsq (.seq (.block (.seq (rg (gm h30 fun h226 => gm h33 fun h227 => ?_))))))
     obtain ⟨r_142, E_r_142, h⟩ := bind_some h
     refine zB (m := 0) (al := false) (r := Enc.enc (r_142 : Bool)) [eL x_76, Enc.enc (x_127 : Int)] (zd (v := eL x_76) h226 rfl (Enc.erase_enc (x_76 : LI)) (zd (v := ji x_127) h227 rfl rfl zw)) (H.c17 _ _ _ E_r_142) H.g17 rfl rfl rfl rfl (gm (rf (jb r_142)) fun h229 => zP (c := r_142) h (fun hg4 h => ?_) (fun hg4 h => ?_))
     · iterate 6 refine ym (ct h229 hg4) ?_
       refine g2 229 235 (jb true) (ct h229 hg4) (rf (.tup [])) fun h236 => gq ?_
       exact zde H r_3 r_4 r_12 x_117 x_76 x_77 x_126 x_127 c2 Hc2 (yH F r_3 r_4 r_12 x_117 x_76 x_77 c2 k) ih true _ ⟨h2, h3, h4, h5, h13, h29, h30, h31, h32, h33, h236⟩ h
     refine zg (ct h229 hg4) (gm h33 fun h230 => zg (ct h229 hg4) (gm h4 fun h231 => zg (ct h229 hg4) (gm h31 fun h232 => ?_)))
     obtain ⟨e_143, E_e_143, h⟩ := bind_some h
     refine zg (ct h229 hg4) (gv (.ref .sh 0 [] (ji e_143)) (yu (t := .sh) (lo := 0) (xs := r_3.2) h231 h232 E_e_143 rfl rfl) fun h233 => zg (ct h229 hg4) (g1 233 (ji e_143) h233 fun h234 => zg (ct h229 hg4) (g2 230 234 (jb (x_127 == e_143)) h230 h234 fun h235 => g2 229 235 (jb (x_127 == e_143)) (ct h229 hg4) h235 fun h236 => gq ?_)))
     exact zde H r_3 r_4 r_12 x_117 x_76 x_77 x_126 x_127 c2 Hc2 (yH F r_3 r_4 r_12 x_117 x_76 x_77 c2 k) ih (x_127 == e_143) _ ⟨h2, h3, h4, h5, h13, h29, h30, h31, h32, h33, h236⟩ h
   refine .exit (.esq (.elp (.ebk (.nsq (.seq (rg (gm h32 fun h241 => gm h241 fun h30 => yE (yq (r := 32) (x := 30) (v := _) h30 rfl (fun s_69 hg_69 => ?_)))))))))
   refine ez [(2, jb false), (3, bG 3 r_3.1), (4, eL r_3.2), (5, eL r_4.1), (13, ji r_12.1), (29, ji x_117), (30, oI 30 [] (.of x_126)), (31, ji x_77)] ⟨hg_69 2 _ _ h2 mb, hg_69 3 _ _ h3 (zh rfl mIE), hg_69 4 _ _ h4 me, hg_69 5 _ _ h5 me, hg_69 13 _ _ h13 mi, hg_69 29 _ _ h29 mi, hg_69 30 _ _ h30 (zm (r := 32) (p := []) rfl rfl), hg_69 31 _ _ h31 mi⟩ ?_
   rintro s ⟨h2, h3, h4, h5, h13, h29, h30, h31⟩
   refine .nsq (.seq (zt (X1 (x := 30) (v := oI 30 [] (.of x_126)) [.at 30 []] (by exact h30) z5 (fun s_70 hg_70 => ?_))))
   refine ez [(2, jb false), (3, bG 3 r_3.1), (4, _), (5, _), (13, ji r_12.1), (29, ji x_117), (30, _), (31, ji x_77)] ⟨hg_70 2 _ _ h2 rfl, hg_70 3 _ _ h3 (zS rfl zIE rfl), hg_70 4 _ _ h4 zE, hg_70 5 _ _ h5 zE, hg_70 13 _ _ h13 rfl, hg_70 29 _ _ h29 rfl, hg_70 30 _ _ h30 Zf, hg_70 31 _ _ h31 rfl⟩ ?_
   rintro s ⟨h2, h3, h4, h5, h13, h29, h30, h31⟩
   refine g1 3 (gV r_3.1) h3 fun h243 => gm h30 fun h244 => ?_
   obtain ⟨r_144, E_r_144, h⟩ := bind_some h
   refine zB (m := 0) (al := true) (r := .tup [eL r_144.1, Enc.enc (r_144.2 : Bool)]) [Enc.enc (r_3.1 : GR), eL x_126] (zd (v := gV r_3.1) h243 rfl (Enc.erase_enc (r_3.1 : GR)) (zd (v := eL x_126) h244 rfl (Enc.erase_enc (x_126 : LI)) zw)) (H.c18 _ _ _ E_r_144) H.g18 (Zd (xk (v := gV r_3.1) h243 rfl rfl (xk (v := eL x_126) h244 rfl rfl uV))) rfl rfl rfl (gm (rf (.tup [eL r_144.1, jb r_144.2])) fun h242 => g1 242 (eL r_144.1) h242 fun h246 => g1 242 (jb r_144.2) h242 fun h247 => gm h246 fun h34 => gm h247 fun h35 => gq (.nsq (.seq (rg (g1 3 (gV r_3.1) h3 fun h249 => gm h30 fun h250 => ?_)))))
   obtain ⟨r_145, E_r_145, h⟩ := bind_some h
   refine zB (m := 0) (al := true) (r := .tup [eL r_145.1, Enc.enc (r_145.2 : Bool)]) [Enc.enc (r_3.1 : GR), eL x_126] (zd (v := gV r_3.1) h249 rfl (Enc.erase_enc (r_3.1 : GR)) (zd (v := eL x_126) h250 rfl (Enc.erase_enc (x_126 : LI)) zw)) (H.c19 _ _ _ E_r_145) H.g19 (Zd (xk (v := gV r_3.1) h249 rfl rfl (xk (v := eL x_126) h250 rfl rfl uV))) rfl rfl rfl (gm (rf (.tup [eL r_145.1, jb r_145.2])) fun h248 => g1 248 (eL r_145.1) h248 fun h252 => g1 248 (jb r_145.2) h248 fun h253 => gm h252 fun h36 => gm h253 fun h37 => gq (.nsq (.seq (rg (gm h35 fun h254 => g1 254 (jb (!r_144.2)) h254 fun h255 => ?_)))))
   refine gm h255 fun h256 => zP (c := (!r_144.2)) h (fun hg3 h => ?_) (fun hg3 h => ?_)
   · iterate 2 refine ym (ct h256 hg3) ?_
     refine g2 256 258 (jb true) (ct h256 hg3) (rf (.tup [])) fun h259 => gm h259 fun h260 => ym h260 ?_
     iterate 3 refine ym h260 ?_
     refine g2 260 264 (jb true) h260 (rf (.tup [])) fun h265 => gm h265 fun h266 => ym h266 ?_
     iterate 6 refine ym h266 ?_
     refine g2 266 273 (jb true) h266 (rf (.tup [])) fun h274 => gz [(2, _), (3, _), (4, _), (5, _), (13, _), (29, _), (30, _), (31, _), (274, _)] ⟨h2, h3, h4, h5, h13, h29, h30, h31, h274⟩ ?_
     rintro s ⟨h2, h3, h4, h5, h13, h29, h30, h31, h274⟩
     exact Ki H r_3 r_4 r_12 x_117 x_126 x_77 c2 Hc2 true _ ⟨h2, h3, h4, h5, h13, h29, h30, h31, h274⟩ h
   refine zg (ct h256 hg3) (gm h37 fun h257 => zg (ct h256 hg3) (g1 257 (jb (!r_145.2)) h257 fun h258 => g2 256 258 (jb (!r_145.2)) (ct h256 hg3) h258 fun h259 => gm h259 fun h260 => zP (c := (!r_145.2)) h (fun hg7 h => ?_) (fun hg7 h => ?_)))
   · iterate 4 refine ym (ct h260 hg7) ?_
     refine g2 260 264 (jb true) (ct h260 hg7) (rf (.tup [])) fun h265 => gm h265 fun h266 => ym h266 ?_
     iterate 6 refine ym h266 ?_
     refine g2 266 273 (jb true) h266 (rf (.tup [])) fun h274 => gz [(2, _), (3, _), (4, _), (5, _), (13, _), (29, _), (30, _), (31, _), (274, _)] ⟨h2, h3, h4, h5, h13, h29, h30, h31, h274⟩ ?_
     rintro s ⟨h2, h3, h4, h5, h13, h29, h30, h31, h274⟩
     exact Ki H r_3 r_4 r_12 x_117 x_126 x_77 c2 Hc2 true _ ⟨h2, h3, h4, h5, h13, h29, h30, h31, h274⟩ h
   refine zg (ct h260 hg7) (gm h34 fun h261 => zg (ct h260 hg7) (gm h36 fun h262 => ?_))
   obtain ⟨r_149, E_r_149, h⟩ := bind_some h
   refine zg (ct h260 hg7) (zB (m := 0) (al := false) (r := Enc.enc (r_149 : Bool)) [eL r_144.1, eL r_145.1] (zd (v := eL r_144.1) h261 rfl (Enc.erase_enc (r_144.1 : LI)) (zd (v := eL r_145.1) h262 rfl (Enc.erase_enc (r_145.1 : LI)) zw)) (H.c8 _ _ _ E_r_149) H.g8 rfl rfl rfl rfl (zg (ct h260 hg7) (g1 263 (jb (!r_149)) (rf (jb r_149)) fun h264 => g2 260 264 (jb (!r_149)) (ct h260 hg7) h264 fun h265 => gm h265 fun h266 => zP (c := (!r_149)) h (fun hg13 h => ?_) (fun hg13 h => ?_))))
   · iterate 7 refine ym (ct h266 hg13) ?_
     refine g2 266 273 (jb true) (ct h266 hg13) (rf (.tup [])) fun h274 => gz [(2, _), (3, _), (4, _), (5, _), (13, _), (29, _), (30, _), (31, _), (274, _)] ⟨h2, h3, h4, h5, h13, h29, h30, h31, h274⟩ ?_
     rintro s ⟨h2, h3, h4, h5, h13, h29, h30, h31, h274⟩
     exact Ki H r_3 r_4 r_12 x_117 x_126 x_77 c2 Hc2 true _ ⟨h2, h3, h4, h5, h13, h29, h30, h31, h274⟩ h
   refine zg (ct h266 hg13) (gm h34 fun h267 => zg (ct h266 hg13) (gv (ji (r_144.1.length : Int)) (yo (xs := r_144.1) h267) fun h268 => zg (ct h266 hg13) (gm h5 fun h269 => zg (ct h266 hg13) (gm h31 fun h270 => ?_))))
   obtain ⟨e_150, E_e_150, h⟩ := bind_some h
   refine zg (ct h266 hg13) (gv (.ref .sh 0 [] (ji e_150)) (yu (t := .sh) (lo := 0) (xs := r_4.1) h269 h270 E_e_150 rfl rfl) fun h271 => zg (ct h266 hg13) (g1 271 (ji e_150) h271 fun h272 => zg (ct h266 hg13) (g2 268 272 (jb ((r_144.1.length : Int) != e_150)) h268 h272 fun h273 => g2 266 273 (jb ((r_144.1.length : Int) != e_150)) (ct h266 hg13) h273 fun h274 => gz [(2, _), (3, _), (4, _), (5, _), (13, _), (29, _), (30, _), (31, _), (274, _)] ⟨h2, h3, h4, h5, h13, h29, h30, h31, h274⟩ ?_)))
   rintro s ⟨h2, h3, h4, h5, h13, h29, h30, h31, h274⟩
   exact Ki H r_3 r_4 r_12 x_117 x_126 x_77 c2 Hc2 ((r_144.1.length : Int) != e_150) _ ⟨h2, h3, h4, h5, h13, h29, h30, h31, h274⟩ h
def wQ (F : Nat) (r_3 : (GR × LI)) (r_4 : (LI × Bool)) (r_12 : (Int × Bool)) (x_76 : LI) (x_77 : Int) (c2 : Int → LI → Int → Option Bool) (x_117 : Int) : Option Bool :=
 yH F r_3 r_4 r_12 x_117 x_76 x_77 c2 F [] 0
theorem zcC (H : H3 D σ F) (r_3 : (GR × LI)) (r_4 : (LI × Bool)) (r_12 : (Int × Bool)) (x_76 : LI) (x_77 : Int) (c2 : Int → LI → Int → Option Bool) (Hc2 : ∀ (x_75 : Int) (x_76 : LI) (x_77 : Int) (s : Nat → V), zl [(2, jb false), (3, bG 3 r_3.1), (4, eL r_3.2), (5, eL r_4.1), (13, ji r_12.1), (29, ji x_75), (30, eL x_76), (31, ji x_77)] s → c2 x_75 x_76 x_77 = some r → Run D σ (R3 r) (.run uK [.lp uK, .bk 2, .sq YM]) s) (x_117 : Int) (s : Nat → V) (hs : zl [(2, jb false), (3, bG 3 r_3.1), (4, eL r_3.2), (5, eL r_4.1), (13, ji r_12.1), (29, ji x_117), (30, eL x_76), (31, ji x_77)] s) (h : wQ F r_3 r_4 r_12 x_76 x_77 c2 x_117 = some r) : Run D σ (R3 r) (.nrm [.sq zie, .bk 3, .sq JY, .lp uK, .bk 2, .sq YM]) s := by
 unfold wQ at h
 obtain ⟨h2, h3, h4, h5, h13, h29, h30, h31⟩ := hs
 refine .nsq (.seq (zt (zR ?_)))
 refine ez [(2, _), (3, _), (4, _), (5, _), (13, _), (29, _), (30, _), (31, _), (219, _)] ⟨za h2 rfl mb, za h3 rfl (zh rfl mIE), za h4 rfl me, za h5 rfl me, za h13 rfl mi, za h29 rfl mi, za h30 rfl me, za h31 rfl mi, zb rfl⟩ ?_
 rintro s ⟨h2, h3, h4, h5, h13, h29, h30, h31, h219⟩
 refine xf [] [] trivial rfl rfl h219 (gm (rf (oI 219 [] (.of []))) fun h32 => yE (yq (r := 219) (x := 32) (v := _) h32 rfl (fun s_50 hg_50 => ?_)))
 refine ez [(2, jb false), (3, bG 3 r_3.1), (4, eL r_3.2), (5, eL r_4.1), (13, ji r_12.1), (29, ji x_117), (30, eL x_76), (31, ji x_77), (32, oI 32 [] (.of []))] ⟨hg_50 2 _ _ h2 mb, hg_50 3 _ _ h3 (zh rfl mIE), hg_50 4 _ _ h4 me, hg_50 5 _ _ h5 me, hg_50 13 _ _ h13 mi, hg_50 29 _ _ h29 mi, hg_50 30 _ _ h30 me, hg_50 31 _ _ h31 mi, hg_50 32 _ _ h32 (zm (r := 219) (p := []) rfl rfl)⟩ ?_
 rintro s ⟨h2, h3, h4, h5, h13, h29, h30, h31, h32⟩
 refine .nsq (.seq (.seq (rg (g0 (ji 0) fun h33 => gq (.nsq (.block (.loop ?_)))))))
 exact zgN H r_3 r_4 r_12 x_117 x_76 x_77 c2 Hc2 F [] 0 _ ⟨h2, h3, h4, h5, h13, h29, h30, h31, h32, h33⟩ h
def yc (F : Nat) (r_3 : (GR × LI)) (r_4 : (LI × Bool)) (r_12 : (Int × Bool))  : Nat → Int → LI → Int → Option Bool
 | 0, _, _, _ => none
 | k + 1, x_75, x_76, x_77 =>
   bif decide (x_77 < (r_4.1.length : Int)) then
    (idx r_4.1 x_77).bind fun e_115 =>
    bif decide (e_115 > x_75) then
     (idx r_4.1 x_77).bind fun e_151 =>
     wQ F r_3 r_4 r_12 x_76 x_77 (yc F r_3 r_4 r_12 k) e_151
    else
     wQ F r_3 r_4 r_12 x_76 x_77 (yc F r_3 r_4 r_12 k) x_75
   else
    some (decide (x_75 ≥ r_12.1))
theorem zhx (H : H3 D σ F) (r_3 : (GR × LI)) (r_4 : (LI × Bool)) (r_12 : (Int × Bool))  : ∀ (k : Nat) (x_75 : Int) (x_76 : LI) (x_77 : Int) (s : Nat → V), zl [(2, jb false), (3, bG 3 r_3.1), (4, eL r_3.2), (5, eL r_4.1), (13, ji r_12.1), (29, ji x_75), (30, eL x_76), (31, ji x_77)] s → yc F r_3 r_4 r_12 k x_75 x_76 x_77 = some r → Run D σ (R3 r) (.run uK [.lp uK, .bk 2, .sq YM]) s := by
 intro k
 induction k with
 | zero => intro x_75 x_76 x_77 s _ h; exact nm h
 | succ k ih =>
   intro x_75 x_76 x_77 s hs h
   rw [yc] at h
   obtain ⟨h2, h3, h4, h5, h13, h29, h30, h31⟩ := hs
   refine .seq (.seq (rg (gm h31 fun h203 => gm h5 fun h204 => gv (ji (r_4.1.length : Int)) (yo (xs := r_4.1) h204) fun h205 => g2 203 205 (jb (decide (x_77 < (r_4.1.length : Int)))) h203 h205 fun h206 => gq (.nsq (zi (t := decide (x_77 < (r_4.1.length : Int))) h206 h (fun h => ?_) (fun h => ?_))))))
   · refine .skip (.nsq (.seq (.block (.seq (.seq (rg (gm h5 fun h209 => gm h31 fun h210 => ?_)))))))
     obtain ⟨e_115, E_e_115, h⟩ := bind_some h
     refine gv (.ref .sh 0 [] (ji e_115)) (yu (t := .sh) (lo := 0) (xs := r_4.1) h209 h210 E_e_115 rfl rfl) fun h211 => g1 211 (ji e_115) h211 fun h212 => gm h29 fun h213 => g2 212 213 (jb (decide (e_115 > x_75))) h212 h213 fun h214 => gq (.nsq (zi (t := decide (e_115 > x_75)) h214 h (fun h => ?_) (fun h => ?_)))
     · refine rg (gm h5 fun h215 => gm h31 fun h216 => ?_)
       obtain ⟨e_151, E_e_151, h⟩ := bind_some h
       refine gv (.ref .sh 0 [] (ji e_151)) (yu (t := .sh) (lo := 0) (xs := r_4.1) h215 h216 E_e_151 rfl rfl) fun h217 => g1 217 (ji e_151) h217 fun h218 => gm h218 fun h29 => gq ?_
       exact zcC H r_3 r_4 r_12 x_76 x_77 (yc F r_3 r_4 r_12 k) ih e_151 _ ⟨h2, h3, h4, h5, h13, h29, h30, h31⟩ h
     refine .skip ?_
     exact zcC H r_3 r_4 r_12 x_76 x_77 (yc F r_3 r_4 r_12 k) ih x_75 _ ⟨h2, h3, h4, h5, h13, h29, h30, h31⟩ h
   refine .exit (.esq (.elp (.ebk (.nsq (.seq (rg (gm h29 fun h275 => gm h13 fun h276 => g2 275 276 (jb (decide (x_75 ≥ r_12.1))) h275 h276 fun h277 => gm h277 fun h2 => gq (.nsq (.ret ?_)))))))))
   have hr := Option.some.inj h
   subst hr
   exact rrA (zf h2) rfl
def wg (F : Nat) (r_3 : (GR × LI)) (r_4 : (LI × Bool)) (r_12 : (Int × Bool))  (x_37 : Bool) : Option Bool :=
 bif x_37 then
  some false
 else
  bif (!r_4.2) then
   some true
  else
   yc F r_3 r_4 r_12 F 0 [] 0
theorem Qf (H : H3 D σ F) (r_3 : (GR × LI)) (r_4 : (LI × Bool)) (r_12 : (Int × Bool))  (x_37 : Bool) (s : Nat → V) (hs : zl [(2, jb false), (3, bG 3 r_3.1), (4, eL r_3.2), (5, eL r_4.1), (6, jb r_4.2), (13, ji r_12.1), (199, jb x_37)] s) (h : wg F r_3 r_4 r_12  x_37 = some r) : Run D σ (R3 r) (.nrm [.sq zlm, .sq zpf]) s := by
 unfold wg at h
 obtain ⟨h2, h3, h4, h5, h6, h13, h199⟩ := hs
 refine .nsq (zi (t := x_37) h199 h (fun h => ?_) (fun h => ?_))
 · refine .seq (rg (g0 (jb false) fun h2 => gq (.nsq (.ret ?_))))
   have hr := Option.some.inj h
   subst hr
   exact rrA (zf h2) rfl
 refine .skip (.nsq (.seq (.seq (rg (gm h6 fun h200 => g1 200 (jb (!r_4.2)) h200 fun h201 => gq (.nsq (zi (t := (!r_4.2)) h201 h (fun h => ?_) (fun h => ?_))))))))
 · refine .seq (rg (g0 (jb true) fun h2 => gq (.nsq (.ret ?_))))
   have hr := Option.some.inj h
   subst hr
   exact rrA (zf h2) rfl
 refine .skip (.nsq (.seq (zt (zR ?_))))
 refine ez [(2, _), (3, _), (4, _), (5, _), (13, _), (202, _)] ⟨za h2 rfl mb, za h3 rfl (zh rfl mIE), za h4 rfl me, za h5 rfl me, za h13 rfl mi, zb rfl⟩ ?_
 rintro s ⟨h2, h3, h4, h5, h13, h202⟩
 refine xf [] [] trivial rfl rfl h202 (g0 (ji 0) fun h29 => gm (rf (oI 202 [] (.of []))) fun h30 => yE (yq (r := 202) (x := 30) (v := _) h30 rfl (fun s_3 hg_3 => ?_)))
 refine ez [(2, jb false), (3, bG 3 r_3.1), (4, eL r_3.2), (5, eL r_4.1), (13, ji r_12.1), (29, ji 0), (30, oI 30 [] (.of []))] ⟨hg_3 2 _ _ h2 mb, hg_3 3 _ _ h3 (zh rfl mIE), hg_3 4 _ _ h4 me, hg_3 5 _ _ h5 me, hg_3 13 _ _ h13 mi, hg_3 29 _ _ h29 mi, hg_3 30 _ _ h30 (zm (r := 202) (p := []) rfl rfl)⟩ ?_
 rintro s ⟨h2, h3, h4, h5, h13, h29, h30⟩
 refine .nsq (.seq (.seq (rg (g0 (ji 0) fun h31 => yE (X1 (x := 30) (v := oI 30 [] (.of [])) [.at 30 []] (by exact h30) z5 (fun s_4 hg_4 => ?_))))))
 refine ez [(2, jb false), (3, bG 3 r_3.1), (4, eL r_3.2), (5, eL r_4.1), (13, ji r_12.1), (29, ji 0), (30, _), (31, ji 0)] ⟨hg_4 2 _ _ h2 rfl, hg_4 3 _ _ h3 (zS rfl zIE rfl), hg_4 4 _ _ h4 zE, hg_4 5 _ _ h5 zE, hg_4 13 _ _ h13 rfl, hg_4 29 _ _ h29 rfl, hg_4 30 _ _ h30 Zf, hg_4 31 _ _ h31 rfl⟩ ?_
 rintro s ⟨h2, h3, h4, h5, h13, h29, h30, h31⟩
 refine .nsq (.block (.loop ?_))
 exact zhx H r_3 r_4 r_12 F 0 [] 0 _ ⟨h2, h3, h4, h5, h13, h29, h30, h31⟩ h
def yP (F : Nat) (r_3 : (GR × LI)) (r_4 : (LI × Bool)) (r_12 : (Int × Bool)) (r_19 : (Int × Bool)) (r_22 : (LI × Bool))  : Nat → Int → Int → Option Bool
 | 0, _, _ => none
 | k + 1, x_27, x_28 =>
   bif decide (x_28 < (r_22.1.length : Int)) then
    (idx r_22.1 x_28).bind fun e_33 =>
    bif decide (e_33 > x_27) then
     (idx r_22.1 x_28).bind fun e_36 =>
     vH F r_3 r_4 r_12 r_19 r_22 x_28 (yP F r_3 r_4 r_12 r_19 r_22 k) e_36
    else
     vH F r_3 r_4 r_12 r_19 r_22 x_28 (yP F r_3 r_4 r_12 r_19 r_22 k) x_27
   else
    bif (!r_22.2) then
     wg F r_3 r_4 r_12 true
    else
     bif (x_27 != r_12.1) then
      wg F r_3 r_4 r_12 true
     else
      wg F r_3 r_4 r_12 (decide (r_19.1 > r_12.1))
theorem zhM (H : H3 D σ F) (r_3 : (GR × LI)) (r_4 : (LI × Bool)) (r_12 : (Int × Bool)) (r_19 : (Int × Bool)) (r_22 : (LI × Bool))  : ∀ (k : Nat) (x_27 : Int) (x_28 : Int) (s : Nat → V), zl [(2, jb false), (3, bG 3 r_3.1), (4, eL r_3.2), (5, eL r_4.1), (6, jb r_4.2), (13, ji r_12.1), (21, ji r_19.1), (25, eL r_22.1), (26, jb r_22.2), (27, ji x_27), (28, ji x_28)] s → yP F r_3 r_4 r_12 r_19 r_22 k x_27 x_28 = some r → Run D σ (R3 r) (.run zdC [.lp zdC, .bk 0, .sq zhw]) s := by
 intro k
 induction k with
 | zero => intro x_27 x_28 s _ h; exact nm h
 | succ k ih =>
   intro x_27 x_28 s hs h
   rw [yP] at h
   obtain ⟨h2, h3, h4, h5, h6, h13, h21, h25, h26, h27, h28⟩ := hs
   refine .seq (.seq (rg (gm h28 fun h172 => gm h25 fun h173 => gv (ji (r_22.1.length : Int)) (yo (xs := r_22.1) h173) fun h174 => g2 172 174 (jb (decide (x_28 < (r_22.1.length : Int)))) h172 h174 fun h175 => gq (.nsq (zi (t := decide (x_28 < (r_22.1.length : Int))) h175 h (fun h => ?_) (fun h => ?_))))))
   · refine .skip (.nsq (.seq (.block (.seq (rg (gm h25 fun h178 => gm h28 fun h179 => ?_))))))
     obtain ⟨e_33, E_e_33, h⟩ := bind_some h
     refine gv (.ref .sh 0 [] (ji e_33)) (yu (t := .sh) (lo := 0) (xs := r_22.1) h178 h179 E_e_33 rfl rfl) fun h180 => g1 180 (ji e_33) h180 fun h181 => gm h27 fun h182 => g2 181 182 (jb (decide (e_33 > x_27))) h181 h182 fun h183 => gq (.nsq (zi (t := decide (e_33 > x_27)) h183 h (fun h => ?_) (fun h => ?_)))
     · refine rg (gm h25 fun h184 => gm h28 fun h185 => ?_)
       obtain ⟨e_36, E_e_36, h⟩ := bind_some h
       refine gv (.ref .sh 0 [] (ji e_36)) (yu (t := .sh) (lo := 0) (xs := r_22.1) h184 h185 E_e_36 rfl rfl) fun h186 => g1 186 (ji e_36) h186 fun h187 => gm h187 fun h27 => gz [(2, _), (3, _), (4, _), (5, _), (6, _), (13, _), (21, _), (25, _), (26, _), (27, _), (28, _)] ⟨h2, h3, h4, h5, h6, h13, h21, h25, h26, h27, h28⟩ ?_
       rintro s ⟨h2, h3, h4, h5, h6, h13, h21, h25, h26, h27, h28⟩
       exact zcr H r_3 r_4 r_12 r_19 r_22 x_28 (yP F r_3 r_4 r_12 r_19 r_22 k) ih e_36 _ ⟨h2, h3, h4, h5, h6, h13, h21, h25, h26, h27, h28⟩ h
     refine .skip ?_
     exact zcr H r_3 r_4 r_12 r_19 r_22 x_28 (yP F r_3 r_4 r_12 r_19 r_22 k) ih x_27 _ ⟨h2, h3, h4, h5, h6, h13, h21, h25, h26, h27, h28⟩ h
   refine .exit (.esq (.elp (.ebk (.nsq (.seq (.seq (rg (gm h26 fun h188 => g1 188 (jb (!r_22.2)) h188 fun h189 => gm h189 fun h190 => zP (c := (!r_22.2)) h (fun hg3 h => ?_) (fun hg3 h => ?_)))))))))
   · iterate 3 refine ym (ct h190 hg3) ?_
     refine g2 190 193 (jb true) (ct h190 hg3) (rf (.tup [])) fun h194 => gm h194 fun h195 => ym h195 ?_
     iterate 2 refine ym h195 ?_
     refine g2 195 198 (jb true) h195 (rf (.tup [])) fun h199 => gz [(2, _), (3, _), (4, _), (5, _), (6, _), (13, _), (199, _)] ⟨h2, h3, h4, h5, h6, h13, h199⟩ ?_
     rintro s ⟨h2, h3, h4, h5, h6, h13, h199⟩
     exact Qf H r_3 r_4 r_12 true _ ⟨h2, h3, h4, h5, h6, h13, h199⟩ h
   refine zg (ct h190 hg3) (gm h27 fun h191 => zg (ct h190 hg3) (gm h13 fun h192 => zg (ct h190 hg3) (g2 191 192 (jb (x_27 != r_12.1)) h191 h192 fun h193 => g2 190 193 (jb (x_27 != r_12.1)) (ct h190 hg3) h193 fun h194 => gm h194 fun h195 => zP (c := (x_27 != r_12.1)) h (fun hg8 h => ?_) (fun hg8 h => ?_))))
   · iterate 3 refine ym (ct h195 hg8) ?_
     refine g2 195 198 (jb true) (ct h195 hg8) (rf (.tup [])) fun h199 => gz [(2, _), (3, _), (4, _), (5, _), (6, _), (13, _), (199, _)] ⟨h2, h3, h4, h5, h6, h13, h199⟩ ?_
     rintro s ⟨h2, h3, h4, h5, h6, h13, h199⟩
     exact Qf H r_3 r_4 r_12 true _ ⟨h2, h3, h4, h5, h6, h13, h199⟩ h
   refine zg (ct h195 hg8) (gm h21 fun h196 => zg (ct h195 hg8) (gm h13 fun h197 => zg (ct h195 hg8) (g2 196 197 (jb (decide (r_19.1 > r_12.1))) h196 h197 fun h198 => g2 195 198 (jb (decide (r_19.1 > r_12.1))) (ct h195 hg8) h198 fun h199 => gz [(2, _), (3, _), (4, _), (5, _), (6, _), (13, _), (199, _)] ⟨h2, h3, h4, h5, h6, h13, h199⟩ ?_)))
   rintro s ⟨h2, h3, h4, h5, h6, h13, h199⟩
   exact Qf H r_3 r_4 r_12 (decide (r_19.1 > r_12.1)) _ ⟨h2, h3, h4, h5, h6, h13, h199⟩ h
def wh (F : Nat) (r_3 : (GR × LI)) (r_4 : (LI × Bool)) (x_10 : Bool) (r_12 : (Int × Bool)) (r_15 : (LI × Bool)) (r_19 : (Int × Bool))  (x_21 : Bool) : Option Bool :=
 bif x_21 then
  some false
 else
  bif (!x_10) then
   some true
  else
   (x7 F r_3.1 r_15.1).bind fun r_22 =>
   yP F r_3 r_4 r_12 r_19 r_22 F 0 0
theorem NE (H : H3 D σ F) (r_3 : (GR × LI)) (r_4 : (LI × Bool)) (x_10 : Bool) (r_12 : (Int × Bool)) (r_15 : (LI × Bool)) (r_19 : (Int × Bool))  (x_21 : Bool) (s : Nat → V) (hs : zl [(2, jb false), (3, bG 3 r_3.1), (4, eL r_3.2), (5, eL r_4.1), (6, jb r_4.2), (10, jb x_10), (13, ji r_12.1), (17, eL r_15.1), (21, ji r_19.1), (163, jb x_21)] s) (h : wh F r_3 r_4 x_10 r_12 r_15 r_19  x_21 = some r) : Run D σ (R3 r) (.nrm [.sq ziv, .sq zig]) s := by
 unfold wh at h
 obtain ⟨h2, h3, h4, h5, h6, h10, h13, h17, h21, h163⟩ := hs
 refine .nsq (zi (t := x_21) h163 h (fun h => ?_) (fun h => ?_))
 · refine .seq (rg (g0 (jb false) fun h2 => gq (.nsq (.ret ?_))))
   have hr := Option.some.inj h
   subst hr
   exact rrA (zf h2) rfl
 refine .skip (.nsq (.seq (.seq (rg (gm h10 fun h164 => g1 164 (jb (!x_10)) h164 fun h165 => gq (.nsq (zi (t := (!x_10)) h165 h (fun h => ?_) (fun h => ?_))))))))
 · refine .seq (rg (g0 (jb true) fun h2 => gq (.nsq (.ret ?_))))
   have hr := Option.some.inj h
   subst hr
   exact rrA (zf h2) rfl
 refine .skip (.nsq (.seq (rg (g1 3 (gV r_3.1) h3 fun h167 => gm h17 fun h168 => ?_))))
 obtain ⟨r_22, E_r_22, h⟩ := bind_some h
 refine zB (m := 0) (al := false) (r := .tup [eL r_22.1, Enc.enc (r_22.2 : Bool)]) [Enc.enc (r_3.1 : GR), eL r_15.1] (zd (v := gV r_3.1) h167 rfl (Enc.erase_enc (r_3.1 : GR)) (zd (v := eL r_15.1) h168 rfl (Enc.erase_enc (r_15.1 : LI)) zw)) (H.c6 _ _ _ E_r_22) H.g6 rfl rfl rfl rfl (gm (rf (.tup [eL r_22.1, jb r_22.2])) fun h166 => g1 166 (eL r_22.1) h166 fun h170 => g1 166 (jb r_22.2) h166 fun h171 => gm h170 fun h25 => gm h171 fun h26 => gq (.nsq (.seq (rg (g0 (ji 0) fun h27 => gq (.nsq (.seq (.seq (rg (g0 (ji 0) fun h28 => gq (.nsq (.block (.loop ?_)))))))))))))
 exact zhM H r_3 r_4 r_12 r_19 r_22 F 0 0 _ ⟨h2, h3, h4, h5, h6, h13, h21, h25, h26, h27, h28⟩ h
def xw (F : Nat) (r_3 : (GR × LI)) (r_4 : (LI × Bool)) (x_10 : Bool) (r_12 : (Int × Bool)) (r_15 : (LI × Bool))  (x_18 : Bool) : Option Bool :=
 bif x_18 then
  some false
 else
  (w5 F r_3.1).bind fun r_19 =>
  (wZ F r_3.1).bind fun r_20 =>
  bif (r_19.1 != r_20.1) then
   wh F r_3 r_4 x_10 r_12 r_15 r_19 true
  else
   bif (r_19.2 != r_20.2) then
    wh F r_3 r_4 x_10 r_12 r_15 r_19 true
   else
    wh F r_3 r_4 x_10 r_12 r_15 r_19 (r_19.2 != x_10)
theorem NF (H : H3 D σ F) (r_3 : (GR × LI)) (r_4 : (LI × Bool)) (x_10 : Bool) (r_12 : (Int × Bool)) (r_15 : (LI × Bool))  (x_18 : Bool) (s : Nat → V) (hs : zl [(2, jb false), (3, bG 3 r_3.1), (4, eL r_3.2), (5, eL r_4.1), (6, jb r_4.2), (10, jb x_10), (13, ji r_12.1), (17, eL r_15.1), (140, jb x_18)] s) (h : xw F r_3 r_4 x_10 r_12 r_15  x_18 = some r) : Run D σ (R3 r) (.nrm [.sq ziR, .sq zh2]) s := by
 unfold xw at h
 obtain ⟨h2, h3, h4, h5, h6, h10, h13, h17, h140⟩ := hs
 refine .nsq (zi (t := x_18) h140 h (fun h => ?_) (fun h => ?_))
 · refine .seq (rg (g0 (jb false) fun h2 => gq (.nsq (.ret ?_))))
   have hr := Option.some.inj h
   subst hr
   exact rrA (zf h2) rfl
 refine .skip (.nsq (.seq (rg (g1 3 (gV r_3.1) h3 fun h142 => ?_))))
 obtain ⟨r_19, E_r_19, h⟩ := bind_some h
 refine zB (m := 0) (al := false) (r := .tup [Enc.enc (r_19.1 : Int), Enc.enc (r_19.2 : Bool)]) [Enc.enc (r_3.1 : GR)] (zd (v := gV r_3.1) h142 rfl (Enc.erase_enc (r_3.1 : GR)) zw) (H.c15 _ _ E_r_19) H.g15 rfl rfl rfl rfl (gm (rf (.tup [ji r_19.1, jb r_19.2])) fun h141 => g1 141 (ji r_19.1) h141 fun h144 => g1 141 (jb r_19.2) h141 fun h145 => gm h144 fun h21 => gm h145 fun h22 => gz [(2, _), (3, _), (4, _), (5, _), (6, _), (10, _), (13, _), (17, _), (21, _), (22, _)] ⟨h2, h3, h4, h5, h6, h10, h13, h17, h21, h22⟩ ?_)
 rintro s ⟨h2, h3, h4, h5, h6, h10, h13, h17, h21, h22⟩
 refine .nsq (.seq (.seq (rg (g1 3 (gV r_3.1) h3 fun h147 => ?_))))
 obtain ⟨r_20, E_r_20, h⟩ := bind_some h
 refine zB (m := 0) (al := false) (r := .tup [Enc.enc (r_20.1 : Int), Enc.enc (r_20.2 : Bool)]) [Enc.enc (r_3.1 : GR)] (zd (v := gV r_3.1) h147 rfl (Enc.erase_enc (r_3.1 : GR)) zw) (H.c16 _ _ E_r_20) H.g16 rfl rfl rfl rfl (gm (rf (.tup [ji r_20.1, jb r_20.2])) fun h146 => g1 146 (ji r_20.1) h146 fun h149 => g1 146 (jb r_20.2) h146 fun h150 => gm h149 fun h23 => gm h150 fun h24 => gq (.nsq (.seq (rg (gm h21 fun h151 => gm h23 fun h152 => g2 151 152 (jb (r_19.1 != r_20.1)) h151 h152 fun h153 => gm h153 fun h154 => zP (c := (r_19.1 != r_20.1)) h (fun hg4 h => ?_) (fun hg4 h => ?_))))))
 · iterate 3 refine ym (ct h154 hg4) ?_
   refine g2 154 157 (jb true) (ct h154 hg4) (rf (.tup [])) fun h158 => gm h158 fun h159 => ym h159 ?_
   iterate 2 refine ym h159 ?_
   refine g2 159 162 (jb true) h159 (rf (.tup [])) fun h163 => gq ?_
   exact NE H r_3 r_4 x_10 r_12 r_15 r_19 true _ ⟨h2, h3, h4, h5, h6, h10, h13, h17, h21, h163⟩ h
 refine zg (ct h154 hg4) (gm h22 fun h155 => zg (ct h154 hg4) (gm h24 fun h156 => zg (ct h154 hg4) (g2 155 156 (jb (r_19.2 != r_20.2)) h155 h156 fun h157 => g2 154 157 (jb (r_19.2 != r_20.2)) (ct h154 hg4) h157 fun h158 => gm h158 fun h159 => zP (c := (r_19.2 != r_20.2)) h (fun hg9 h => ?_) (fun hg9 h => ?_))))
 · iterate 3 refine ym (ct h159 hg9) ?_
   refine g2 159 162 (jb true) (ct h159 hg9) (rf (.tup [])) fun h163 => gq ?_
   exact NE H r_3 r_4 x_10 r_12 r_15 r_19 true _ ⟨h2, h3, h4, h5, h6, h10, h13, h17, h21, h163⟩ h
 refine zg (ct h159 hg9) (gm h22 fun h160 => zg (ct h159 hg9) (gm h10 fun h161 => zg (ct h159 hg9) (g2 160 161 (jb (r_19.2 != x_10)) h160 h161 fun h162 => g2 159 162 (jb (r_19.2 != x_10)) (ct h159 hg9) h162 fun h163 => gq ?_)))
 exact NE H r_3 r_4 x_10 r_12 r_15 r_19 (r_19.2 != x_10) _ ⟨h2, h3, h4, h5, h6, h10, h13, h17, h21, h163⟩ h
def xu (F : Nat) (r_3 : (GR × LI)) (r_4 : (LI × Bool)) (x_10 : Bool) (r_12 : (Int × Bool))  (x_14 : Bool) : Option Bool :=
 bif x_14 then
  some false
 else
  (xH F r_3.1).bind fun r_15 =>
  (x6 F r_3.1).bind fun r_16 =>
  bif (r_15.2 != r_16.2) then
   xw F r_3 r_4 x_10 r_12 r_15 true
  else
   bif (r_15.2 != x_10) then
    xw F r_3 r_4 x_10 r_12 r_15 true
   else
    (ul F r_15.1 r_16.1).bind fun r_152 =>
    xw F r_3 r_4 x_10 r_12 r_15 (!r_152)
theorem MZ (H : H3 D σ F) (r_3 : (GR × LI)) (r_4 : (LI × Bool)) (x_10 : Bool) (r_12 : (Int × Bool))  (x_14 : Bool) (s : Nat → V) (hs : zl [(2, jb false), (3, bG 3 r_3.1), (4, eL r_3.2), (5, eL r_4.1), (6, jb r_4.2), (10, jb x_10), (13, ji r_12.1), (116, jb x_14)] s) (h : xu F r_3 r_4 x_10 r_12  x_14 = some r) : Run D σ (R3 r) (.nrm [.sq ziO, .sq zh5]) s := by
 unfold xu at h
 obtain ⟨h2, h3, h4, h5, h6, h10, h13, h116⟩ := hs
 refine .nsq (zi (t := x_14) h116 h (fun h => ?_) (fun h => ?_))
 · refine .seq (rg (g0 (jb false) fun h2 => gq (.nsq (.ret ?_))))
   have hr := Option.some.inj h
   subst hr
   exact rrA (zf h2) rfl
 refine .skip (.nsq (.seq (rg (g1 3 (gV r_3.1) h3 fun h118 => ?_))))
 obtain ⟨r_15, E_r_15, h⟩ := bind_some h
 refine zB (m := 0) (al := true) (r := .tup [eL r_15.1, Enc.enc (r_15.2 : Bool)]) [Enc.enc (r_3.1 : GR)] (zd (v := gV r_3.1) h118 rfl (Enc.erase_enc (r_3.1 : GR)) zw) (H.c13 _ _ E_r_15) H.g13 (Zd (xk (v := gV r_3.1) h118 rfl rfl uV)) rfl rfl rfl (gm (rf (.tup [eL r_15.1, jb r_15.2])) fun h117 => g1 117 (eL r_15.1) h117 fun h120 => g1 117 (jb r_15.2) h117 fun h121 => gm h120 fun h17 => gm h121 fun h18 => gq (.nsq (.seq (.seq (rg (g1 3 (gV r_3.1) h3 fun h123 => ?_))))))
 obtain ⟨r_16, E_r_16, h⟩ := bind_some h
 refine zB (m := 0) (al := true) (r := .tup [eL r_16.1, Enc.enc (r_16.2 : Bool)]) [Enc.enc (r_3.1 : GR)] (zd (v := gV r_3.1) h123 rfl (Enc.erase_enc (r_3.1 : GR)) zw) (H.c14 _ _ E_r_16) H.g14 (Zd (xk (v := gV r_3.1) h123 rfl rfl uV)) rfl rfl rfl (gm (rf (.tup [eL r_16.1, jb r_16.2])) fun h122 => g1 122 (eL r_16.1) h122 fun h125 => g1 122 (jb r_16.2) h122 fun h126 => gm h125 fun h19 => gm h126 fun h20 => gq (.nsq (.seq (rg (gm h18 fun h127 => gm h20 fun h128 => g2 127 128 (jb (r_15.2 != r_16.2)) h127 h128 fun h129 => gm h129 fun h130 => zP (c := (r_15.2 != r_16.2)) h (fun hg4 h => ?_) (fun hg4 h => ?_))))))
 · iterate 3 refine ym (ct h130 hg4) ?_
   refine g2 130 133 (jb true) (ct h130 hg4) (rf (.tup [])) fun h134 => gm h134 fun h135 => ym h135 ?_
   iterate 3 refine ym h135 ?_
   refine g2 135 139 (jb true) h135 (rf (.tup [])) fun h140 => gz [(2, _), (3, _), (4, _), (5, _), (6, _), (10, _), (13, _), (17, _), (140, _)] ⟨h2, h3, h4, h5, h6, h10, h13, h17, h140⟩ ?_
   rintro s ⟨h2, h3, h4, h5, h6, h10, h13, h17, h140⟩
   exact NF H r_3 r_4 x_10 r_12 r_15 true _ ⟨h2, h3, h4, h5, h6, h10, h13, h17, h140⟩ h
 refine zg (ct h130 hg4) (gm h18 fun h131 => zg (ct h130 hg4) (gm h10 fun h132 => zg (ct h130 hg4) (g2 131 132 (jb (r_15.2 != x_10)) h131 h132 fun h133 => g2 130 133 (jb (r_15.2 != x_10)) (ct h130 hg4) h133 fun h134 => gm h134 fun h135 => zP (c := (r_15.2 != x_10)) h (fun hg9 h => ?_) (fun hg9 h => ?_))))
 · iterate 4 refine ym (ct h135 hg9) ?_
   refine g2 135 139 (jb true) (ct h135 hg9) (rf (.tup [])) fun h140 => gz [(2, _), (3, _), (4, _), (5, _), (6, _), (10, _), (13, _), (17, _), (140, _)] ⟨h2, h3, h4, h5, h6, h10, h13, h17, h140⟩ ?_
   rintro s ⟨h2, h3, h4, h5, h6, h10, h13, h17, h140⟩
   exact NF H r_3 r_4 x_10 r_12 r_15 true _ ⟨h2, h3, h4, h5, h6, h10, h13, h17, h140⟩ h
 refine zg (ct h135 hg9) (gm h17 fun h136 => zg (ct h135 hg9) (gm h19 fun h137 => ?_))
 obtain ⟨r_152, E_r_152, h⟩ := bind_some h
 refine zg (ct h135 hg9) (zB (m := 0) (al := false) (r := Enc.enc (r_152 : Bool)) [eL r_15.1, eL r_16.1] (zd (v := eL r_15.1) h136 rfl (Enc.erase_enc (r_15.1 : LI)) (zd (v := eL r_16.1) h137 rfl (Enc.erase_enc (r_16.1 : LI)) zw)) (H.c8 _ _ _ E_r_152) H.g8 rfl rfl rfl rfl (zg (ct h135 hg9) (g1 138 (jb (!r_152)) (rf (jb r_152)) fun h139 => g2 135 139 (jb (!r_152)) (ct h135 hg9) h139 fun h140 => gz [(2, _), (3, _), (4, _), (5, _), (6, _), (10, _), (13, _), (17, _), (140, _)] ⟨h2, h3, h4, h5, h6, h10, h13, h17, h140⟩ ?_)))
 rintro s ⟨h2, h3, h4, h5, h6, h10, h13, h17, h140⟩
 exact NF H r_3 r_4 x_10 r_12 r_15 (!r_152) _ ⟨h2, h3, h4, h5, h6, h10, h13, h17, h140⟩ h
def yT (F : Nat) (r_3 : (GR × LI)) (r_4 : (LI × Bool))  (x_10 : Bool) (x_11 : Bool) : Option Bool :=
 bif x_11 then
  some false
 else
  (xI F r_3.1).bind fun r_12 =>
  (xJ F r_3.1).bind fun r_13 =>
  bif (r_12.1 != r_13.1) then
   xu F r_3 r_4 x_10 r_12 true
  else
   bif (r_12.2 != r_13.2) then
    xu F r_3 r_4 x_10 r_12 true
   else
    xu F r_3 r_4 x_10 r_12 (r_12.2 != x_10)
theorem Uo (H : H3 D σ F) (r_3 : (GR × LI)) (r_4 : (LI × Bool))  (x_10 : Bool) (x_11 : Bool) (s : Nat → V) (hs : zl [(2, jb false), (3, bG 3 r_3.1), (4, eL r_3.2), (5, eL r_4.1), (6, jb r_4.2), (10, jb x_10), (93, jb x_11)] s) (h : yT F r_3 r_4  x_10 x_11 = some r) : Run D σ (R3 r) (.nrm [.sq ziE, .sq zh6]) s := by
 unfold yT at h
 obtain ⟨h2, h3, h4, h5, h6, h10, h93⟩ := hs
 refine .nsq (zi (t := x_11) h93 h (fun h => ?_) (fun h => ?_))
 · refine .seq (rg (g0 (jb false) fun h2 => gq (.nsq (.ret ?_))))
   have hr := Option.some.inj h
   subst hr
   exact rrA (zf h2) rfl
 refine .skip (.nsq (.seq (rg (g1 3 (gV r_3.1) h3 fun h95 => ?_))))
 obtain ⟨r_12, E_r_12, h⟩ := bind_some h
 refine zB (m := 0) (al := false) (r := .tup [Enc.enc (r_12.1 : Int), Enc.enc (r_12.2 : Bool)]) [Enc.enc (r_3.1 : GR)] (zd (v := gV r_3.1) h95 rfl (Enc.erase_enc (r_3.1 : GR)) zw) (H.c11 _ _ E_r_12) H.g11 rfl rfl rfl rfl (gm (rf (.tup [ji r_12.1, jb r_12.2])) fun h94 => g1 94 (ji r_12.1) h94 fun h97 => g1 94 (jb r_12.2) h94 fun h98 => gm h97 fun h13 => gm h98 fun h14 => gq (.nsq (.seq (.seq (rg (g1 3 (gV r_3.1) h3 fun h100 => ?_))))))
 obtain ⟨r_13, E_r_13, h⟩ := bind_some h
 refine zB (m := 0) (al := false) (r := .tup [Enc.enc (r_13.1 : Int), Enc.enc (r_13.2 : Bool)]) [Enc.enc (r_3.1 : GR)] (zd (v := gV r_3.1) h100 rfl (Enc.erase_enc (r_3.1 : GR)) zw) (H.c12 _ _ E_r_13) H.g12 rfl rfl rfl rfl (gm (rf (.tup [ji r_13.1, jb r_13.2])) fun h99 => g1 99 (ji r_13.1) h99 fun h102 => g1 99 (jb r_13.2) h99 fun h103 => gm h102 fun h15 => gm h103 fun h16 => gq (.nsq (.seq (rg (gm h13 fun h104 => gm h15 fun h105 => g2 104 105 (jb (r_12.1 != r_13.1)) h104 h105 fun h106 => gm h106 fun h107 => zP (c := (r_12.1 != r_13.1)) h (fun hg4 h => ?_) (fun hg4 h => ?_))))))
 · iterate 3 refine ym (ct h107 hg4) ?_
   refine g2 107 110 (jb true) (ct h107 hg4) (rf (.tup [])) fun h111 => gm h111 fun h112 => ym h112 ?_
   iterate 2 refine ym h112 ?_
   refine g2 112 115 (jb true) h112 (rf (.tup [])) fun h116 => gq ?_
   exact MZ H r_3 r_4 x_10 r_12 true _ ⟨h2, h3, h4, h5, h6, h10, h13, h116⟩ h
 refine zg (ct h107 hg4) (gm h14 fun h108 => zg (ct h107 hg4) (gm h16 fun h109 => zg (ct h107 hg4) (g2 108 109 (jb (r_12.2 != r_13.2)) h108 h109 fun h110 => g2 107 110 (jb (r_12.2 != r_13.2)) (ct h107 hg4) h110 fun h111 => gm h111 fun h112 => zP (c := (r_12.2 != r_13.2)) h (fun hg9 h => ?_) (fun hg9 h => ?_))))
 · iterate 3 refine ym (ct h112 hg9) ?_
   refine g2 112 115 (jb true) (ct h112 hg9) (rf (.tup [])) fun h116 => gq ?_
   exact MZ H r_3 r_4 x_10 r_12 true _ ⟨h2, h3, h4, h5, h6, h10, h13, h116⟩ h
 refine zg (ct h112 hg9) (gm h14 fun h113 => zg (ct h112 hg9) (gm h10 fun h114 => zg (ct h112 hg9) (g2 113 114 (jb (r_12.2 != x_10)) h113 h114 fun h115 => g2 112 115 (jb (r_12.2 != x_10)) (ct h112 hg9) h115 fun h116 => gq ?_)))
 exact MZ H r_3 r_4 x_10 r_12 (r_12.2 != x_10) _ ⟨h2, h3, h4, h5, h6, h10, h13, h116⟩ h
def vg (F : Nat) (r_3 : (GR × LI)) (r_4 : (LI × Bool))  (x_7 : Bool) : Option Bool :=
 bif x_7 then
  some false
 else
  (vF F r_3.1 r_3.2).bind fun r_8 =>
  (ut F r_3.1 r_3.2).bind fun r_9 =>
  bif (r_8.1 != r_9.1) then
   yT F r_3 r_4 r_8.2 true
  else
   bif (r_8.2 != r_9.2) then
    yT F r_3 r_4 r_8.2 true
   else
    bif r_8.2 then
     yT F r_3 r_4 true (r_4.2 != r_8.1)
    else
     yT F r_3 r_4 false (r_4.2 != false)
theorem zau (H : H3 D σ F) (r_3 : (GR × LI)) (r_4 : (LI × Bool))  (x_7 : Bool) (s : Nat → V) (hs : zl [(2, jb false), (3, bG 3 r_3.1), (4, eL r_3.2), (5, eL r_4.1), (6, jb r_4.2), (65, jb x_7)] s) (h : vg F r_3 r_4  x_7 = some r) : Run D σ (R3 r) (.nrm [.sq ziz, .sq zit]) s := by
 unfold vg at h
 obtain ⟨h2, h3, h4, h5, h6, h65⟩ := hs
 refine .nsq (zi (t := x_7) h65 h (fun h => ?_) (fun h => ?_))
 · refine .seq (rg (g0 (jb false) fun h2 => gq (.nsq (.ret ?_))))
   have hr := Option.some.inj h
   subst hr
   exact rrA (zf h2) rfl
 refine .skip (.nsq (.seq (rg (g1 3 (gV r_3.1) h3 fun h67 => gm h4 fun h68 => ?_))))
 obtain ⟨r_8, E_r_8, h⟩ := bind_some h
 refine zB (m := 0) (al := false) (r := .tup [Enc.enc (r_8.1 : Bool), Enc.enc (r_8.2 : Bool)]) [Enc.enc (r_3.1 : GR), eL r_3.2] (zd (v := gV r_3.1) h67 rfl (Enc.erase_enc (r_3.1 : GR)) (zd (v := eL r_3.2) h68 rfl (Enc.erase_enc (r_3.2 : LI)) zw)) (H.c9 _ _ _ E_r_8) H.g9 rfl rfl rfl rfl (gm (rf (.tup [jb r_8.1, jb r_8.2])) fun h66 => g1 66 (jb r_8.1) h66 fun h70 => g1 66 (jb r_8.2) h66 fun h71 => gm h70 fun h9 => gm h71 fun h10 => gq (.nsq (.seq (.seq (rg (g1 3 (gV r_3.1) h3 fun h73 => gm h4 fun h74 => ?_))))))
 obtain ⟨r_9, E_r_9, h⟩ := bind_some h
 refine zB (m := 0) (al := false) (r := .tup [Enc.enc (r_9.1 : Bool), Enc.enc (r_9.2 : Bool)]) [Enc.enc (r_3.1 : GR), eL r_3.2] (zd (v := gV r_3.1) h73 rfl (Enc.erase_enc (r_3.1 : GR)) (zd (v := eL r_3.2) h74 rfl (Enc.erase_enc (r_3.2 : LI)) zw)) (H.c10 _ _ _ E_r_9) H.g10 rfl rfl rfl rfl (gm (rf (.tup [jb r_9.1, jb r_9.2])) fun h72 => g1 72 (jb r_9.1) h72 fun h76 => g1 72 (jb r_9.2) h72 fun h77 => gm h76 fun h11 => gm h77 fun h12 => gz [(2, _), (3, _), (4, _), (5, _), (6, _), (9, _), (10, _), (11, _), (12, _)] ⟨h2, h3, h4, h5, h6, h9, h10, h11, h12⟩ ?_)
 rintro s ⟨h2, h3, h4, h5, h6, h9, h10, h11, h12⟩
 refine .nsq (.seq (rg (gm h9 fun h78 => gm h11 fun h79 => g2 78 79 (jb (r_8.1 != r_9.1)) h78 h79 fun h80 => gm h80 fun h81 => zP (c := (r_8.1 != r_9.1)) h (fun hg4 h => ?_) (fun hg4 h => ?_))))
 · iterate 3 refine ym (ct h81 hg4) ?_
   refine g2 81 84 (jb true) (ct h81 hg4) (rf (.tup [])) fun h85 => gm h85 fun h86 => ym h86 ?_
   iterate 2 refine ym h86 ?_
   refine Z0 rfl ?_
   iterate 2 refine ym h86 ?_
   refine g2 86 92 (jb true) h86 (rf (.tup [])) fun h93 => gq ?_
   exact Uo H r_3 r_4 r_8.2 true _ ⟨h2, h3, h4, h5, h6, h10, h93⟩ h
 refine zg (ct h81 hg4) (gm h10 fun h82 => zg (ct h81 hg4) (gm h12 fun h83 => zg (ct h81 hg4) (g2 82 83 (jb (r_8.2 != r_9.2)) h82 h83 fun h84 => g2 81 84 (jb (r_8.2 != r_9.2)) (ct h81 hg4) h84 fun h85 => gm h85 fun h86 => zP (c := (r_8.2 != r_9.2)) h (fun hg9 h => ?_) (fun hg9 h => ?_))))
 · iterate 3 refine ym (ct h86 hg9) ?_
   refine Z0 rfl ?_
   iterate 2 refine ym (ct h86 hg9) ?_
   refine g2 86 92 (jb true) (ct h86 hg9) (rf (.tup [])) fun h93 => gq ?_
   exact Uo H r_3 r_4 r_8.2 true _ ⟨h2, h3, h4, h5, h6, h10, h93⟩ h
 refine zg (ct h86 hg9) (gm h6 fun h87 => zg (ct h86 hg9) (gm h10 fun h88 => zg (ct h86 hg9) (gm h88 fun h89 => zP (c := r_8.2) h (fun hg12 h => ?_) (fun hg12 h => ?_))))
 · refine zg (ct h89 hg12) (gm h9 fun h90 => zg (ct h86 hg9) (g2 89 90 (jb r_8.1) (ct h89 hg12) h90 fun h91 => zg (ct h86 hg9) (g2 87 91 (jb (r_4.2 != r_8.1)) h87 h91 fun h92 => g2 86 92 (jb (r_4.2 != r_8.1)) (ct h86 hg9) h92 fun h93 => gz [(2, _), (3, _), (4, _), (5, _), (6, _), (10, _), (93, _)] ⟨h2, h3, h4, h5, h6, ct h10 hg12, h93⟩ ?_)))
   rintro s ⟨h2, h3, h4, h5, h6, h10, h93⟩
   exact Uo H r_3 r_4 true (r_4.2 != r_8.1) _ ⟨h2, h3, h4, h5, h6, h10, h93⟩ h
 refine ym (ct h89 hg12) (zg (ct h86 hg9) (g2 89 90 (jb false) (ct h89 hg12) (rf (.tup [])) fun h91 => zg (ct h86 hg9) (g2 87 91 (jb (r_4.2 != false)) h87 h91 fun h92 => g2 86 92 (jb (r_4.2 != false)) (ct h86 hg9) h92 fun h93 => gz [(2, _), (3, _), (4, _), (5, _), (6, _), (10, _), (93, _)] ⟨h2, h3, h4, h5, h6, ct h10 hg12, h93⟩ ?_)))
 rintro s ⟨h2, h3, h4, h5, h6, h10, h93⟩
 exact Uo H r_3 r_4 false (r_4.2 != false) _ ⟨h2, h3, h4, h5, h6, h10, h93⟩ h
def wU (F : Nat) (x_1 : LB) : Option Bool :=
 (U5 F x_1).bind fun r_2 =>
 bif r_2 then
  some true
 else
  (xG F x_1).bind fun r_3 =>
  (x7 F r_3.1 r_3.2).bind fun r_4 =>
  (w8 F r_3.1 r_3.2).bind fun r_5 =>
  bif (r_4.2 != r_5.2) then
   vg F r_3 r_4 true
  else
   (ul F r_4.1 r_5.1).bind fun r_153 =>
   vg F r_3 r_4 (!r_153)
theorem t3 (H : H3 D σ F) (x_1 : LB) (s : Nat → V) (hs : zl [(0, eB x_1)] s) (h : wU F x_1 = some r) : Run D σ (R3 r) (.run A3 []) s := by
 unfold wU at h
 have h0 := hs
 refine .seq (rg (g0 (jb false) fun h2 => gq (.nsq (.seq (.seq (rg (gm h0 fun h38 => ?_)))))))
 obtain ⟨r_2, E_r_2, h⟩ := bind_some h
 refine zB (m := 0) (al := false) (r := Enc.enc (r_2 : Bool)) [Enc.enc (x_1 : LB)] (zd (v := eB x_1) h38 rfl (Enc.erase_enc (x_1 : LB)) zw) (H.c4 _ _ E_r_2) H.g4 rfl rfl rfl rfl (gq (.nsq (zi (t := r_2) rfl h (fun h => ?_) (fun h => ?_))))
 · refine .seq (rg (g0 (jb true) fun h2 => gq (.nsq (.ret ?_))))
   have hr := Option.some.inj h
   subst hr
   exact rrA (zf h2) rfl
 refine .skip (.nsq (.seq (zt (zR ?_))))
 refine ez [(0, _), (2, _), (3, _)] ⟨za h0 rfl me, za h2 rfl mb, zb rfl⟩ ?_
 rintro s ⟨h0, h2, h3⟩
 refine gm h0 fun h41 => ?_
 obtain ⟨r_3, E_r_3, h⟩ := bind_some h
 refine zB (m := 0) (al := true) (r := .tup [Enc.enc (r_3.1 : GR), eL r_3.2]) [Enc.enc (x_1 : LB)] (zd (v := eB x_1) h41 rfl (Enc.erase_enc (x_1 : LB)) zw) (H.c5 _ _ E_r_3) H.g5 (Zd (xk (v := eB x_1) h41 rfl rfl uV)) rfl rfl rfl (gm (rf (.tup [gV r_3.1, eL r_3.2])) fun h40 => g1 40 (gV r_3.1) h40 fun h43 => g1 40 (eL r_3.2) h40 fun h44 => xp h3 (z7 (gV r_3.1) (zy rfl rfl) (zy h43 rfl) (xR (by first | rfl | simp [V.toks, V.tokss, Enc.toks_enc, z4])) (gm (zc h44 uE) fun h4 => gz [(2, jb false), (3, bG 3 r_3.1), (4, _)] ⟨zc h2 rfl, zc rfl rfl, h4⟩ ?_)))
 rintro s ⟨h2, h3, h4⟩
 refine .nsq (.seq (rg (g1 3 (gV r_3.1) h3 fun h46 => gm h4 fun h47 => ?_)))
 obtain ⟨r_4, E_r_4, h⟩ := bind_some h
 refine zB (m := 0) (al := false) (r := .tup [eL r_4.1, Enc.enc (r_4.2 : Bool)]) [Enc.enc (r_3.1 : GR), eL r_3.2] (zd (v := gV r_3.1) h46 rfl (Enc.erase_enc (r_3.1 : GR)) (zd (v := eL r_3.2) h47 rfl (Enc.erase_enc (r_3.2 : LI)) zw)) (H.c6 _ _ _ E_r_4) H.g6 rfl rfl rfl rfl (gm (rf (.tup [eL r_4.1, jb r_4.2])) fun h45 => g1 45 (eL r_4.1) h45 fun h49 => g1 45 (jb r_4.2) h45 fun h50 => gm h49 fun h5 => gm h50 fun h6 => gq (.nsq (.seq (.seq (rg (g1 3 (gV r_3.1) h3 fun h52 => gm h4 fun h53 => ?_))))))
 obtain ⟨r_5, E_r_5, h⟩ := bind_some h
 refine zB (m := 0) (al := false) (r := .tup [eL r_5.1, Enc.enc (r_5.2 : Bool)]) [Enc.enc (r_3.1 : GR), eL r_3.2] (zd (v := gV r_3.1) h52 rfl (Enc.erase_enc (r_3.1 : GR)) (zd (v := eL r_3.2) h53 rfl (Enc.erase_enc (r_3.2 : LI)) zw)) (H.c7 _ _ _ E_r_5) H.g7 rfl rfl rfl rfl (gm (rf (.tup [eL r_5.1, jb r_5.2])) fun h51 => g1 51 (eL r_5.1) h51 fun h55 => g1 51 (jb r_5.2) h51 fun h56 => gm h55 fun h7 => gm h56 fun h8 => gq (.nsq (.seq (rg (gm h6 fun h57 => gm h8 fun h58 => g2 57 58 (jb (r_4.2 != r_5.2)) h57 h58 fun h59 => gm h59 fun h60 => zP (c := (r_4.2 != r_5.2)) h (fun hg4 h => ?_) (fun hg4 h => ?_))))))
 · iterate 4 refine ym (ct h60 hg4) ?_
   refine g2 60 64 (jb true) (ct h60 hg4) (rf (.tup [])) fun h65 => gq ?_
   exact zau H r_3 r_4 true _ ⟨h2, h3, h4, h5, h6, h65⟩ h
 refine zg (ct h60 hg4) (gm h5 fun h61 => zg (ct h60 hg4) (gm h7 fun h62 => ?_))
 obtain ⟨r_153, E_r_153, h⟩ := bind_some h
 refine zg (ct h60 hg4) (zB (m := 0) (al := false) (r := Enc.enc (r_153 : Bool)) [eL r_4.1, eL r_5.1] (zd (v := eL r_4.1) h61 rfl (Enc.erase_enc (r_4.1 : LI)) (zd (v := eL r_5.1) h62 rfl (Enc.erase_enc (r_5.1 : LI)) zw)) (H.c8 _ _ _ E_r_153) H.g8 rfl rfl rfl rfl (zg (ct h60 hg4) (g1 63 (jb (!r_153)) (rf (jb r_153)) fun h64 => g2 60 64 (jb (!r_153)) (ct h60 hg4) h64 fun h65 => gq ?_)))
 exact zau H r_3 r_4 (!r_153) _ ⟨h2, h3, h4, h5, h6, h65⟩ h
end
def e3 (F : Nat) : Ent := ent 3 (fun (x : (LB × Unit)) => wU F x.1) (fun (r : Bool) => (Enc.enc (r : Bool))) 0 false []
theorem p3 {F : Nat} {x0 : LB} {r : Bool} (h : wU F x0 = some r) : (e3 F).den [Enc.enc x0] = some (Enc.enc (r : Bool)) := zJ (x0, ()) h
theorem o3 {D : Den} {σ : Sig} {F : Nat} (hF : zu Try.prog D σ) (H : H3 D σ F) : (e3 F).Ok Try.prog := by
 refine yd (f := 3) (show unk 3 = 3 from rfl) (fun args r h => ?_) ⟨Try.f3, Try.func3, rfl, rfl⟩
 obtain ⟨⟨x0, _⟩, y, rfl, hy, rfl⟩ := zH h
 exact zk hF (by kernel_rfl) Try.func3 rfl c3 (show 1 ≤ Try.f3.ntmps by decide) (t3 H x0 _ rfl hy)
end Go.Zq
