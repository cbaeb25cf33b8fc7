/- Functions of the program as typed functions, and that the machine runs as they say (part 1). No further condition. -/
import Derived.Test.YtkmhlpopclahcaaK4
import Derived.Test.YtkmhlpopclahcaaProg
import Derived.Test.YtkmhlpopclahcaaChecked
import Derived.KernelRfl
set_option linter.unusedVariables false
set_option linter.unusedSimpArgs false
namespace Go.Zq
open Go.Proofs
def zqY : AC := (.seq (.reg [] [jm 3 0, jv 4 (.len (.t 3)), jv 5 (.bin .gtr (.t 4) (jn 65536)), jm 2 5] []) .ret)
def A4 : AC := (.seq (.reg [] [jv 2 (.mov kf)] []) zqY)
def an4 : List An := []
theorem c4 : cC Try.prog Try.f4.ntmps an4 (Try.f4.body.getD .skip) = some A4 := by kernel_rfl
structure H4 (D : Den) (σ : Sig) (F : Nat) : Prop where
 mk ::
abbrev R4 (r : Bool) : (Nat → V) → Prop := RR Try.prog [.tmp 2] 0 false (Enc.enc (r : Bool))
section
variable {D : Den} {σ : Sig} {F : Nat} {r : Bool}
def U5 (F : Nat) (x_1 : LB) : Option Bool :=
 some (decide ((x_1.length : Int) > 65536))
theorem t4 (H : H4 D σ F) (x_1 : LB) (s : Nat → V) (hs : zl [(0, eB x_1)] s) (h : U5 F x_1 = some r) : Run D σ (R4 r) (.run A4 []) s := by
 unfold U5 at h
 have h0 := hs
 refine .seq (rg (g0 (jb false) fun h2 => gq (.nsq (.seq (rg (gm h0 fun h3 => gv (ji (x_1.length : Int)) (yo (xs := x_1) h3) fun h4 => g1 4 (jb (decide ((x_1.length : Int) > 65536))) h4 fun h5 => gm h5 fun h2 => gq (.nsq (.ret ?_))))))))
 have hr := Option.some.inj h
 subst hr
 exact rrA (zf h2) rfl
end
def e4 (F : Nat) : Ent := ent 4 (fun (x : (LB × Unit)) => U5 F x.1) (fun (r : Bool) => (Enc.enc (r : Bool))) 0 false []
abbrev C4 (D : List V → Option V) (F : Nat) : Prop := ∀ (x0 : LB) r, U5 F x0 = some r → D [Enc.enc x0] = some (Enc.enc (r : Bool))
theorem p4 {F : Nat} : C4 (e4 F).den F := fun x0 _ h => zJ (x0, ()) h
theorem o4 {D : Den} {σ : Sig} {F : Nat} (hF : zu Try.prog D σ) (H : H4 D σ F) : (e4 F).Ok Try.prog := by
 refine yd (f := 4) (show unk 4 = 4 from rfl) (fun args r h => ?_) ⟨Try.f4, Try.func4, rfl, rfl⟩
 obtain ⟨⟨x0, _⟩, y, rfl, hy, rfl⟩ := zH h
 exact zk hF (by kernel_rfl) Try.func4 rfl c4 (show 1 ≤ Try.f4.ntmps by decide) (t4 H x0 _ rfl hy)
def zpC : AC := (.cond (.t 53) (.seq (.reg [] [jm 54 3, jm 2 54] []) .ret) .skip)
def zoz : AC := (.seq (.reg [] [jm 55 0, jv 56 (.nilc (.t 55)), jv 57 (.fld (.t 56) 2 2), jv 58 (.load .s (.t 57)), jv 59 (.bin .shr (.t 58) (.k (.int .u64 (.ofNat 40)))), jv 60 (.bin .and (.t 59) (.k (.int .u64 (.ofNat 255)))), jv 61 (.conv .i64 (.t 60)), jm 2 61] []) .ret)
def zoy : AC := (.seq (.seq (.reg [] [jm 44 0, jv 45 (.nilc (.t 44)), jv 46 (.fld (.t 45) 1 1), jv 47 (.load .s (.t 46)), jm 48 0, jv 49 (.nilc (.t 48)), jv 50 (.fld (.t 49) 0 0), jv 51 (.load .p (.t 50)), jv 52 (.len (.t 51)), jv 53 (.bin .leq (.t 47) (.t 52))] []) zpC) zoz)
def znY : AC := (.seq (.reg [] [jm 32 0, jm 33 0, jv 34 (.nilc (.t 33)), jv 35 (.fld (.t 34) 2 2), jv 36 (.load .s (.t 35)), jv 37 (.bin .mul (.t 36) (.k (.int .u64 (.ofNat 6364136223846793005)))), jm 38 3, jv 39 (.conv .u64 (.t 38)), jv 40 (.bin .add (.t 37) (.t 39)), jv 41 (.bin .add (.t 40) (.k (.int .u64 (.ofNat 462197)))), jv 42 (.nilc (.t 32)), jv 43 (.fld (.t 42) 2 2), jz (.store .s (.t 43) (.t 41))] []) zoy)
def ziN : AC := (.seq (.reg [] [jm 25 0, jv 26 (.nilc (.t 25)), jv 27 (.fld (.t 26) 1 1), jv 28 (.load .s (.t 27)), jv 29 (.bin .add (.t 28) (jn 1)), jv 30 (.nilc (.t 25)), jv 31 (.fld (.t 30) 1 1), jz (.store .s (.t 31) (.t 29))] []) znY)
def znz : AC := (.cond (.t 13) (.reg [] [jm 14 0, jv 15 (.nilc (.t 14)), jv 16 (.fld (.t 15) 0 0), jv 17 (.load .p (.t 16)), jm 18 0, jv 19 (.nilc (.t 18)), jv 20 (.fld (.t 19) 1 1), jv 21 (.load .s (.t 20)), jv 22 (.idx (.t 17) (.t 21) 1), jv 23 (.load .s (.t 22)), jv 24 (.conv .i64 (.t 23)), jm 3 24] []) .skip)
def zkM : AC := (.seq (.seq (.reg [] [jm 4 0, jv 5 (.nilc (.t 4)), jv 6 (.fld (.t 5) 1 1), jv 7 (.load .s (.t 6)), jm 8 0, jv 9 (.nilc (.t 8)), jv 10 (.fld (.t 9) 0 0), jv 11 (.load .p (.t 10)), jv 12 (.len (.t 11)), jv 13 (.bin .lss (.t 7) (.t 12))] []) znz) ziN)
def zmm : AC := (.seq (.reg [] [jv 3 (.mov (jn 0))] []) zkM)
def A76 : AC := (.seq (.reg [] [jv 2 (.mov (jn 0))] []) zmm)
def zp4 : List An := []
theorem c76 : cC Try.prog Try.f76.ntmps zp4 (Try.f76.body.getD .skip) = some A76 := by kernel_rfl
structure H76 (D : Den) (σ : Sig) (F : Nat) : Prop where
 mk ::
abbrev R76 (r : (Int × CU)) : (Nat → V) → Prop := RT Try.prog [.tmp 2] (Enc.enc (r.1 : Int)) [cuV zA r.2]
section
variable {D : Den} {σ : Sig} {F : Nat} {r : (Int × CU)}
def wu (F : Nat) (x_1 : CC)  (x_3 : Int) : Option (Int × CU) :=
 bif decide ((w64 (x_1.v.b + 1)) ≤ (x_1.v.a.length : Int)) then
  some (x_3, S3.mk x_1.v.a (w64 (x_1.v.b + 1)) (Kd.mk (IntKind.u64.wrap ((IntKind.u64.wrap ((IntKind.u64.wrap (x_1.v.c.v * 6364136223846793005)) + (IntKind.u64.wrap x_3))) + 462197)) : Kd .u64))
 else
  (Z6 .u64 (IntKind.u64.wrap ((IntKind.u64.wrap ((IntKind.u64.wrap (x_1.v.c.v * 6364136223846793005)) + (IntKind.u64.wrap x_3))) + 462197)) 40).bind fun q_4 =>
  some (w64 (z6 .u64 q_4 255), S3.mk x_1.v.a (w64 (x_1.v.b + 1)) (Kd.mk (IntKind.u64.wrap ((IntKind.u64.wrap ((IntKind.u64.wrap (x_1.v.c.v * 6364136223846793005)) + (IntKind.u64.wrap x_3))) + 462197)) : Kd .u64))
theorem zac (H : H76 D σ F) (x_1 : CC)  (x_3 : Int) (s : Nat → V) (hs : zl [(0, bC x_1.v), (2, ji 0), (3, ji x_3)] s) (h : wu F x_1  x_3 = some r) : Run D σ (R76 r) (.nrm [.sq ziN]) s := by
 unfold wu at h
 obtain ⟨h0, h2, h3⟩ := hs
 refine .nsq (.seq (rg (gm h0 fun h25 => g1 25 (bC x_1.v) h25 fun h26 => g1 26 (.ref (.bx zA) 0 [1] (ji x_1.v.b)) h26 fun h27 => g1 27 (ji x_1.v.b) h27 fun h28 => g1 28 (ji (w64 (x_1.v.b + 1))) h28 fun h29 => g1 25 (bC x_1.v) h25 fun h30 => g1 30 (.ref (.bx zA) 0 [1] (ji x_1.v.b)) h30 fun h31 => z7 (ji (w64 (x_1.v.b + 1))) (zy h31 rfl) (zy h29 rfl) (xR (by first | rfl | simp [V.toks, V.tokss, Enc.toks_enc, z4])) (gz [(0, .ref (.bx zA) 0 [] (.agg [eB x_1.v.a, ji (w64 (x_1.v.b + 1)), .int .u64 x_1.v.c.v])), (2, ji 0), (3, ji x_3)] ⟨zc h0 rfl, zc h2 rfl, zc h3 rfl⟩ ?_))))
 rintro s ⟨h0, h2, h3⟩
 refine .nsq (.seq (rg (gm h0 fun h32 => gm h0 fun h33 => g1 33 (.ref (.bx zA) 0 [] (.agg [eB x_1.v.a, ji (w64 (x_1.v.b + 1)), .int .u64 x_1.v.c.v])) h33 fun h34 => g1 34 (.ref (.bx zA) 0 [2] (.int .u64 x_1.v.c.v)) h34 fun h35 => g1 35 (.int .u64 x_1.v.c.v) h35 fun h36 => g1 36 (.int .u64 (IntKind.u64.wrap (x_1.v.c.v * 6364136223846793005))) h36 fun h37 => gm h3 fun h38 => g1 38 (.int .u64 (IntKind.u64.wrap x_3)) h38 fun h39 => g2 37 39 (.int .u64 (IntKind.u64.wrap ((IntKind.u64.wrap (x_1.v.c.v * 6364136223846793005)) + (IntKind.u64.wrap x_3)))) h37 h39 fun h40 => ?_)))
 refine g1 40 (.int .u64 (IntKind.u64.wrap ((IntKind.u64.wrap ((IntKind.u64.wrap (x_1.v.c.v * 6364136223846793005)) + (IntKind.u64.wrap x_3))) + 462197))) h40 fun h41 => g1 32 (.ref (.bx zA) 0 [] (.agg [eB x_1.v.a, ji (w64 (x_1.v.b + 1)), .int .u64 x_1.v.c.v])) h32 fun h42 => g1 42 (.ref (.bx zA) 0 [2] (.int .u64 x_1.v.c.v)) h42 fun h43 => z7 (.int .u64 (IntKind.u64.wrap ((IntKind.u64.wrap ((IntKind.u64.wrap (x_1.v.c.v * 6364136223846793005)) + (IntKind.u64.wrap x_3))) + 462197))) (zy h43 rfl) (zy h41 rfl) (xR (by first | rfl | simp [V.toks, V.tokss, Enc.toks_enc, z4])) ?_
 refine gz [(0, .ref (.bx zA) 0 [] (.agg [eB x_1.v.a, ji (w64 (x_1.v.b + 1)), .int .u64 (IntKind.u64.wrap ((IntKind.u64.wrap ((IntKind.u64.wrap (x_1.v.c.v * 6364136223846793005)) + (IntKind.u64.wrap x_3))) + 462197))])), (2, ji 0), (3, ji x_3)] ⟨zc h0 rfl, zc h2 rfl, zc h3 rfl⟩ ?_
 rintro s ⟨h0, h2, h3⟩
 refine .nsq (.seq (.seq (rg (gm h0 fun h44 => g1 44 (.ref (.bx zA) 0 [] (.agg [eB x_1.v.a, ji (w64 (x_1.v.b + 1)), .int .u64 (IntKind.u64.wrap ((IntKind.u64.wrap ((IntKind.u64.wrap (x_1.v.c.v * 6364136223846793005)) + (IntKind.u64.wrap x_3))) + 462197))])) h44 fun h45 => g1 45 (.ref (.bx zA) 0 [1] (ji (w64 (x_1.v.b + 1)))) h45 fun h46 => g1 46 (ji (w64 (x_1.v.b + 1))) h46 fun h47 => gm h0 fun h48 => g1 48 (.ref (.bx zA) 0 [] (.agg [eB x_1.v.a, ji (w64 (x_1.v.b + 1)), .int .u64 (IntKind.u64.wrap ((IntKind.u64.wrap ((IntKind.u64.wrap (x_1.v.c.v * 6364136223846793005)) + (IntKind.u64.wrap x_3))) + 462197))])) h48 fun h49 => ?_))))
 refine g1 49 (.ref (.bx zA) 0 [0] (eB x_1.v.a)) h49 fun h50 => g1 50 (eB x_1.v.a) h50 fun h51 => gv (ji (x_1.v.a.length : Int)) (yo (xs := x_1.v.a) h51) fun h52 => g2 47 52 (jb (decide ((w64 (x_1.v.b + 1)) ≤ (x_1.v.a.length : Int)))) h47 h52 fun h53 => gq (.nsq (zi (t := decide ((w64 (x_1.v.b + 1)) ≤ (x_1.v.a.length : Int))) h53 h (fun h => ?_) (fun h => ?_)))
 · refine .seq (rg (gm h3 fun h54 => gm h54 fun h2 => gq (.nsq (.ret ?_))))
   have hr := Option.some.inj h
   subst hr
   exact rt1 (t := 0) (zf h2) h0
 refine .skip (.nsq (.seq (rg (gm h0 fun h55 => g1 55 (.ref (.bx zA) 0 [] (.agg [eB x_1.v.a, ji (w64 (x_1.v.b + 1)), .int .u64 (IntKind.u64.wrap ((IntKind.u64.wrap ((IntKind.u64.wrap (x_1.v.c.v * 6364136223846793005)) + (IntKind.u64.wrap x_3))) + 462197))])) h55 fun h56 => g1 56 (.ref (.bx zA) 0 [2] (.int .u64 (IntKind.u64.wrap ((IntKind.u64.wrap ((IntKind.u64.wrap (x_1.v.c.v * 6364136223846793005)) + (IntKind.u64.wrap x_3))) + 462197)))) h56 fun h57 => g1 57 (.int .u64 (IntKind.u64.wrap ((IntKind.u64.wrap ((IntKind.u64.wrap (x_1.v.c.v * 6364136223846793005)) + (IntKind.u64.wrap x_3))) + 462197))) h57 fun h58 => ?_))))
 obtain ⟨q_4, E_q_4, h⟩ := bind_some h
 refine gv (.int .u64 q_4) (ua h58 rfl E_q_4) fun h59 => g1 59 (.int .u64 (z6 .u64 q_4 255)) h59 fun h60 => g1 60 (ji (w64 (z6 .u64 q_4 255))) h60 fun h61 => gm h61 fun h2 => gq (.nsq (.ret ?_))
 have hr := Option.some.inj h
 subst hr
 exact rt1 (t := 0) (zf h2) h0
def xZ (F : Nat) (x_1 : CC) : Option (Int × CU) :=
 bif decide (x_1.v.b < (x_1.v.a.length : Int)) then
  (idx x_1.v.a x_1.v.b).bind fun e_5 =>
  wu F x_1 (w64 e_5.v)
 else
  wu F x_1 0
theorem t76 (H : H76 D σ F) (x_1 : CC) (s : Nat → V) (hs : zl [(0, bC x_1.v)] s) (h : xZ F x_1 = some r) : Run D σ (R76 r) (.run A76 []) s := by
 unfold xZ at h
 have h0 := hs
 refine .seq (rg (g0 (ji 0) fun h2 => gq (.nsq (.seq (rg (g0 (ji 0) fun h3 => gq (.nsq (.seq (.seq (rg (gm h0 fun h4 => g1 4 (bC x_1.v) h4 fun h5 => g1 5 (.ref (.bx zA) 0 [1] (ji x_1.v.b)) h5 fun h6 => g1 6 (ji x_1.v.b) h6 fun h7 => gm h0 fun h8 => g1 8 (bC x_1.v) h8 fun h9 => g1 9 (.ref (.bx zA) 0 [0] (eB x_1.v.a)) h9 fun h10 => g1 10 (eB x_1.v.a) h10 fun h11 => gv (ji (x_1.v.a.length : Int)) (yo (xs := x_1.v.a) h11) fun h12 => g2 7 12 (jb (decide (x_1.v.b < (x_1.v.a.length : Int)))) h7 h12 fun h13 => gq (.nsq (zi (t := decide (x_1.v.b < (x_1.v.a.length : Int))) h13 h (fun h => ?_) (fun h => ?_))))))))))))))
 · refine rg (gm h0 fun h14 => g1 14 (bC x_1.v) h14 fun h15 => g1 15 (.ref (.bx zA) 0 [0] (eB x_1.v.a)) h15 fun h16 => g1 16 (eB x_1.v.a) h16 fun h17 => gm h0 fun h18 => g1 18 (bC x_1.v) h18 fun h19 => g1 19 (.ref (.bx zA) 0 [1] (ji x_1.v.b)) h19 fun h20 => g1 20 (ji x_1.v.b) h20 fun h21 => ?_)
   obtain ⟨e_5, E_e_5, h⟩ := bind_some h
   refine gv (.ref .sh 0 [] (.int .u8 e_5.v)) (yu (t := .sh) (lo := 0) (xs := x_1.v.a) h17 h21 E_e_5 rfl rfl) fun h22 => g1 22 (.int .u8 e_5.v) h22 fun h23 => g1 23 (ji (w64 e_5.v)) h23 fun h24 => gm h24 fun h3 => gq ?_
   exact zac H x_1 (w64 e_5.v) _ ⟨h0, h2, h3⟩ h
 refine .skip ?_
 exact zac H x_1 0 _ ⟨h0, h2, h3⟩ h
end
def e76 (F : Nat) : Ent := ent 76 (fun (x : (CC × Unit)) => xZ F x.1) (fun (r : (Int × CU)) => (.tup [Enc.enc (r.1 : Int), .tup [cuV zA r.2]])) uf false []
abbrev C76 (D : List V → Option V) (F : Nat) : Prop := ∀ (x0 : CC) r, xZ F x0 = some r → D [Arg.arg x0] = some (.tup [Enc.enc (r.1 : Int), .tup [cuV zA r.2]])
theorem p76 {F : Nat} : C76 (e76 F).den F := fun x0 _ h => zJ (x0, ()) h
theorem o76 {D : Den} {σ : Sig} {F : Nat} (hF : zu Try.prog D σ) (H : H76 D σ F) : (e76 F).Ok Try.prog := by
 refine yd (f := 76) (show unk 76 = 76 from rfl) (fun args r h => ?_) ⟨Try.f76, Try.func76, rfl, rfl⟩
 obtain ⟨⟨x0, _⟩, y, rfl, hy, rfl⟩ := zH h
 exact x8 hF (by kernel_rfl) Try.func76 rfl c76 rfl (show 1 ≤ Try.f76.ntmps by decide) (by decide) (t76 H x0 _ rfl hy)
def zia : AC := (.seq (.reg [] [jm 17 5, jm 18 1, jv 19 (.bin .rem (.t 17) (.t 18)), jm 4 19] []) .ret)
def zlw : AC := (.cond (.t 7) (.seq (.reg [] [jv 4 (.mov (jn 0))] []) .ret) .skip)
def zo9 : AC := (.cond (.t 11) (.reg [] [jm 12 5, jv 13 (.bin .mul (.t 12) (jn 256)), jm 14 0, jx 15 (.callT (jf 76) [.t 14] [0] []), jv 16 (.bin .add (.t 13) (.t 15)), jm 5 16] []) .skip)
def zmi : AC := (.seq (.seq (.reg [] [jm 10 1, jv 11 (.bin .gtr (.t 10) (jn 200))] []) zo9) zia)
def zpj : AC := (.seq (.reg [] [jm 8 0, jx 9 (.callT (jf 76) [.t 8] [0] []), jm 5 9] []) zmi)
def zoK : AC := (.seq (.seq (.reg [] [jm 6 1, jv 7 (.bin .leq (.t 6) (jn 1))] []) zlw) zpj)
def A65 : AC := (.seq (.reg [] [jv 4 (.mov (jn 0))] []) zoK)
def zrf : List An := [⟨3, [], [], [2000000], []⟩, ⟨5, [], [], [4000000], []⟩]
theorem c65 : cC Try.prog Try.f65.ntmps zrf (Try.f65.body.getD .skip) = some A65 := by kernel_rfl
structure H65 (D : Den) (σ : Sig) (F : Nat) : Prop where
 c76 : C76 (D 76) F
 g76 : σ 76 = some (uf, false)
abbrev R65 (r : (Int × CU)) : (Nat → V) → Prop := RT Try.prog [.tmp 4] (Enc.enc (r.1 : Int)) [cuV zA r.2]
section
variable {D : Den} {σ : Sig} {F : Nat} {r : (Int × CU)}
def wt (F : Nat) (x_2 : Int)  (x_5 : LB) (x_6 : Int) (x_7 : Int) (x_8 : Int) : Option (Int × CU) :=
 (zfj .i64 x_8 x_2).bind fun q_9 =>
 some (q_9, S3.mk x_5 x_6 (Kd.mk x_7 : Kd .u64))
theorem zah (H : H65 D σ F) (x_2 : Int)  (x_5 : LB) (x_6 : Int) (x_7 : Int) (x_8 : Int) (s : Nat → V) (hs : zl [(0, .ref (.bx zA) 0 [] (.agg [eB x_5, ji x_6, .int .u64 x_7])), (1, ji x_2), (4, ji 0), (5, ji x_8)] s) (h : wt F x_2  x_5 x_6 x_7 x_8 = some r) : Run D σ (R65 r) (.nrm [.sq zia]) s := by
 unfold wt at h
 obtain ⟨h0, h1, h4, h5⟩ := hs
 refine .nsq (.seq (rg (gm h5 fun h17 => gm h1 fun h18 => ?_)))
 obtain ⟨q_9, E_q_9, h⟩ := bind_some h
 refine gv (ji q_9) (zjM h17 h18 E_q_9) fun h19 => gm h19 fun h4 => gq (.nsq (.ret ?_))
 have hr := Option.some.inj h
 subst hr
 exact rt1 (t := 0) (zf h4) h0
def ye (F : Nat) (x_1 : CC) (x_2 : Int) : Option (Int × CU) :=
 bif decide (x_2 ≤ 1) then
  some (0, x_1.v)
 else
  (xZ F (Cu.mk x_1.v)).bind fun r_3 =>
  bif decide (x_2 > 200) then
   (xZ F (Cu.mk r_3.2)).bind fun r_10 =>
   wt F x_2 r_10.2.a r_10.2.b r_10.2.c.v (w64 ((w64 (r_3.1 * 256)) + r_10.1))
  else
   wt F x_2 r_3.2.a r_3.2.b r_3.2.c.v r_3.1
theorem t65 (H : H65 D σ F) (x_1 : CC) (x_2 : Int) (s : Nat → V) (hs : zl [(0, bC x_1.v), (1, ji x_2)] s) (h : ye F x_1 x_2 = some r) : Run D σ (R65 r) (.run A65 []) s := by
 unfold ye at h
 obtain ⟨h0, h1⟩ := hs
 refine .seq (rg (g0 (ji 0) fun h4 => gq (.nsq (.seq (.seq (rg (gm h1 fun h6 => g1 6 (jb (decide (x_2 ≤ 1))) h6 fun h7 => gq (.nsq (zi (t := decide (x_2 ≤ 1)) h7 h (fun h => ?_) (fun h => ?_))))))))))
 · refine .seq (rg (g0 (ji 0) fun h4 => gq (.nsq (.ret ?_))))
   have hr := Option.some.inj h
   subst hr
   exact rt1 (t := 0) (zf h4) h0
 refine .skip (.nsq (.seq (rg (gm h0 fun h8 => ?_))))
 obtain ⟨r_3, E_r_3, h⟩ := bind_some h
 refine vw (r := zA) (b := 0) (x := x_1.v) (x' := r_3.2) (vs := []) (res := Enc.enc (r_3.1 : Int)) h0 (by exact (zK (v := cuV zA x_1.v) h8 rfl yA)) yn (fun f => zn) (H.c76 _ _ E_r_3) H.g76 te rfl (fun s_1 hb_1 ha_1 => gm (rf (ji r_3.1)) fun h5 => gz [(0, _), (1, ji x_2), (4, ji 0), (5, _)] ⟨(show s_1 0 = (bC r_3.2) from hb_1 0 h0), (show s_1 1 = (ji x_2) from ha_1 1 _ _ h1 rfl mi), (show s_1 4 = (ji 0) from ha_1 4 _ _ h4 rfl mi), h5⟩ ?_)
 rintro s ⟨h0, h1, h4, h5⟩
 refine .nsq (.seq (.seq (rg (gm h1 fun h10 => g1 10 (jb (decide (x_2 > 200))) h10 fun h11 => gq (.nsq (zi (t := decide (x_2 > 200)) h11 h (fun h => ?_) (fun h => ?_)))))))
 · refine rg (gm h5 fun h12 => g1 12 (ji (w64 (r_3.1 * 256))) h12 fun h13 => gm h0 fun h14 => ?_)
   obtain ⟨r_10, E_r_10, h⟩ := bind_some h
   refine vw (r := zA) (b := 0) (x := r_3.2) (x' := r_10.2) (vs := []) (res := Enc.enc (r_10.1 : Int)) h0 (by exact (zK (v := cuV zA r_3.2) h14 rfl yA)) yn (fun f => zn) (H.c76 _ _ E_r_10) H.g76 te rfl (fun s_3 hb_3 ha_3 => g2 13 15 (ji (w64 ((w64 (r_3.1 * 256)) + r_10.1))) (show s_3 13 = (ji (w64 (r_3.1 * 256))) from ha_3 13 _ _ h13 rfl mi) (rf (ji r_10.1)) fun h16 => gm h16 fun h5 => gz [(0, _), (1, ji x_2), (4, ji 0), (5, _)] ⟨(show s_3 0 = (bC r_10.2) from hb_3 0 h0), (show s_3 1 = (ji x_2) from ha_3 1 _ _ h1 rfl mi), (show s_3 4 = (ji 0) from ha_3 4 _ _ h4 rfl mi), h5⟩ ?_)
   rintro s ⟨h0, h1, h4, h5⟩
   exact zah H x_2 r_10.2.a r_10.2.b r_10.2.c.v (w64 ((w64 (r_3.1 * 256)) + r_10.1)) _ ⟨h0, h1, h4, h5⟩ h
 refine .skip ?_
 exact zah H x_2 r_3.2.a r_3.2.b r_3.2.c.v r_3.1 _ ⟨h0, h1, h4, h5⟩ h
end
def e65 (F : Nat) : Ent := ent 65 (fun (x : (CC × Int × Unit)) => ye F x.1 x.2.1) (fun (r : (Int × CU)) => (.tup [Enc.enc (r.1 : Int), .tup [cuV zA r.2]])) uf false []
abbrev C65 (D : List V → Option V) (F : Nat) : Prop := ∀ (x0 : CC) (x1 : Int) r, ye F x0 x1 = some r → D [Arg.arg x0, Enc.enc x1] = some (.tup [Enc.enc (r.1 : Int), .tup [cuV zA r.2]])
theorem p65 {F : Nat} : C65 (e65 F).den F := fun x0 x1 _ h => zJ (x0, x1, ()) h
theorem o65 {D : Den} {σ : Sig} {F : Nat} (hF : zu Try.prog D σ) (H : H65 D σ F) : (e65 F).Ok Try.prog := by
 refine yd (f := 65) (show unk 65 = 65 from rfl) (fun args r h => ?_) ⟨Try.f65, Try.func65, rfl, rfl⟩
 obtain ⟨⟨x0, x1, _⟩, y, rfl, hy, rfl⟩ := zH h
 exact x8 hF (by kernel_rfl) Try.func65 rfl c65 rfl (show 2 ≤ Try.f65.ntmps by decide) (by decide) (t65 H x0 x1 _ ⟨rfl, rfl⟩ hy)
def zpV : AC := (.seq (.reg [] [jm 5 1, jm 6 0, jm 7 1, jv 8 (.len (.t 7)), jx 9 (.callT (jf 65) [.t 6, .t 8] [0] []), jv 10 (.idx (.t 5) (.t 9) 1), jv 11 (.load .s (.t 10)), jm 4 11] []) .ret)
def A67 : AC := (.seq (.reg [] [jv 4 (.mov (jn 0))] []) zpV)
def zrd : List An := [⟨1, [], [], [5000000], []⟩]
theorem c67 : cC Try.prog Try.f67.ntmps zrd (Try.f67.body.getD .skip) = some A67 := by kernel_rfl
structure H67 (D : Den) (σ : Sig) (F : Nat) : Prop where
 c65 : C65 (D 65) F
 g65 : σ 65 = some (uf, false)
abbrev R67 (r : (Int × CU)) : (Nat → V) → Prop := RT Try.prog [.tmp 4] (Enc.enc (r.1 : Int)) [cuV zA r.2]
section
variable {D : Den} {σ : Sig} {F : Nat} {r : (Int × CU)}
def yJ (F : Nat) (x_1 : CC) (x_2 : LI) : Option (Int × CU) :=
 (ye F (Cu.mk x_1.v) (x_2.length : Int)).bind fun r_3 =>
 (idx x_2 r_3.1).bind fun e_4 =>
 some (e_4, r_3.2)
theorem t67 (H : H67 D σ F) (x_1 : CC) (x_2 : LI) (s : Nat → V) (hs : zl [(0, bC x_1.v), (1, eL x_2)] s) (h : yJ F x_1 x_2 = some r) : Run D σ (R67 r) (.run A67 []) s := by
 unfold yJ at h
 obtain ⟨h0, h1⟩ := hs
 refine .seq (rg (g0 (ji 0) fun h4 => gq (.nsq (.seq (rg (gm h1 fun h5 => gm h0 fun h6 => gm h1 fun h7 => gv (ji (x_2.length : Int)) (yo (xs := x_2) h7) fun h8 => ?_))))))
 obtain ⟨r_3, E_r_3, h⟩ := bind_some h
 refine vw (r := zA) (b := 0) (x := x_1.v) (x' := r_3.2) (vs := [Enc.enc ((x_2.length : Int) : Int)]) (res := Enc.enc (r_3.1 : Int)) h0 (by exact (zK (v := cuV zA x_1.v) h6 rfl (zK (v := Enc.enc ((x_2.length : Int) : Int)) h8 rfl yA))) (z9 te yn) fm1 (H.c65 _ _ _ E_r_3) H.g65 te rfl (fun s_1 hb_1 ha_1 => ?_)
 obtain ⟨e_4, E_e_4, h⟩ := bind_some h
 refine gv (.ref .sh 0 [] (ji e_4)) (yu (t := .sh) (lo := 0) (xs := x_2) (show s_1 5 = (eL x_2) from ha_1 5 _ _ h5 rfl me) rfl E_e_4 rfl rfl) fun h10 => g1 10 (ji e_4) h10 fun h11 => gm h11 fun h4 => gz [(0, _), (4, _)] ⟨(show s_1 0 = (bC r_3.2) from hb_1 0 h0), h4⟩ ?_
 rintro s ⟨h0, h4⟩
 refine .nsq (.ret ?_)
 have hr := Option.some.inj h
 subst hr
 exact rt1 (t := 0) (zf h4) h0
end
def e67 (F : Nat) : Ent := ent 67 (fun (x : (CC × LI × Unit)) => yJ F x.1 x.2.1) (fun (r : (Int × CU)) => (.tup [Enc.enc (r.1 : Int), .tup [cuV zA r.2]])) uf false []
abbrev C67 (D : List V → Option V) (F : Nat) : Prop := ∀ (x0 : CC) (x1 : LI) r, yJ F x0 x1 = some r → D [Arg.arg x0, Enc.enc x1] = some (.tup [Enc.enc (r.1 : Int), .tup [cuV zA r.2]])
theorem p67 {F : Nat} : C67 (e67 F).den F := fun x0 x1 _ h => zJ (x0, x1, ()) h
theorem o67 {D : Den} {σ : Sig} {F : Nat} (hF : zu Try.prog D σ) (H : H67 D σ F) : (e67 F).Ok Try.prog := by
 refine yd (f := 67) (show unk 67 = 67 from rfl) (fun args r h => ?_) ⟨Try.f67, Try.func67, rfl, rfl⟩
 obtain ⟨⟨x0, x1, _⟩, y, rfl, hy, rfl⟩ := zH h
 exact x8 hF (by kernel_rfl) Try.func67 rfl c67 rfl (show 2 ≤ Try.f67.ntmps by decide) (by decide) (t67 H x0 x1 _ ⟨rfl, rfl⟩ hy)
def zpO : AC := (.seq (.reg [] [jm 5 0, jm 6 1, jx 7 (.callT (jf 65) [.t 5, .t 6] [0] []), jv 8 (.bin .eql (.t 7) (jn 0)), jm 4 8] []) .ret)
def A66 : AC := (.seq (.reg [] [jv 4 (.mov kf)] []) zpO)
def zqq : List An := [⟨1, [], [], [3000000], []⟩]
theorem c66 : cC Try.prog Try.f66.ntmps zqq (Try.f66.body.getD .skip) = some A66 := by kernel_rfl
structure H66 (D : Den) (σ : Sig) (F : Nat) : Prop where
 c65 : C65 (D 65) F
 g65 : σ 65 = some (uf, false)
abbrev R66 (r : (Bool × CU)) : (Nat → V) → Prop := RT Try.prog [.tmp 4] (Enc.enc (r.1 : Bool)) [cuV zA r.2]
section
variable {D : Den} {σ : Sig} {F : Nat} {r : (Bool × CU)}
def xN (F : Nat) (x_1 : CC) (x_2 : Int) : Option (Bool × CU) :=
 (ye F (Cu.mk x_1.v) x_2).bind fun r_3 =>
 some ((r_3.1 == 0), r_3.2)
theorem t66 (H : H66 D σ F) (x_1 : CC) (x_2 : Int) (s : Nat → V) (hs : zl [(0, bC x_1.v), (1, ji x_2)] s) (h : xN F x_1 x_2 = some r) : Run D σ (R66 r) (.run A66 []) s := by
 unfold xN at h
 obtain ⟨h0, h1⟩ := hs
 refine .seq (rg (g0 (jb false) fun h4 => gq (.nsq (.seq (rg (gm h0 fun h5 => gm h1 fun h6 => ?_))))))
 obtain ⟨r_3, E_r_3, h⟩ := bind_some h
 refine vw (r := zA) (b := 0) (x := x_1.v) (x' := r_3.2) (vs := [Enc.enc (x_2 : Int)]) (res := Enc.enc (r_3.1 : Int)) h0 (by exact (zK (v := cuV zA x_1.v) h5 rfl (zK (v := Enc.enc (x_2 : Int)) h6 rfl yA))) (z9 te yn) fm1 (H.c65 _ _ _ E_r_3) H.g65 te rfl (fun s_1 hb_1 ha_1 => g1 7 (jb (r_3.1 == 0)) (rf (ji r_3.1)) fun h8 => gm h8 fun h4 => gz [(0, _), (4, _)] ⟨(show s_1 0 = (bC r_3.2) from hb_1 0 h0), h4⟩ ?_)
 rintro s ⟨h0, h4⟩
 refine .nsq (.ret ?_)
 have hr := Option.some.inj h
 subst hr
 exact rt1 (t := 0) (zf h4) h0
end
def e66 (F : Nat) : Ent := ent 66 (fun (x : (CC × Int × Unit)) => xN F x.1 x.2.1) (fun (r : (Bool × CU)) => (.tup [Enc.enc (r.1 : Bool), .tup [cuV zA r.2]])) uf false []
abbrev C66 (D : List V → Option V) (F : Nat) : Prop := ∀ (x0 : CC) (x1 : Int) r, xN F x0 x1 = some r → D [Arg.arg x0, Enc.enc x1] = some (.tup [Enc.enc (r.1 : Bool), .tup [cuV zA r.2]])
theorem p66 {F : Nat} : C66 (e66 F).den F := fun x0 x1 _ h => zJ (x0, x1, ()) h
theorem o66 {D : Den} {σ : Sig} {F : Nat} (hF : zu Try.prog D σ) (H : H66 D σ F) : (e66 F).Ok Try.prog := by
 refine yd (f := 66) (show unk 66 = 66 from rfl) (fun args r h => ?_) ⟨Try.f66, Try.func66, rfl, rfl⟩
 obtain ⟨⟨x0, x1, _⟩, y, rfl, hy, rfl⟩ := zH h
 exact x8 hF (by kernel_rfl) Try.func66 rfl c66 rfl (show 2 ≤ Try.f66.ntmps by decide) (by decide) (t66 H x0 x1 _ ⟨rfl, rfl⟩ hy)
def znL : AC := (.cond (.t 7) (.seq (.reg [] [jm 8 0, jm 4 8] []) .ret) .skip)
def zkO : AC := (.seq (.reg [] [jm 9 1, jm 4 9] []) .ret)
def znv : AC := (.seq (.seq (.reg [] [jm 5 0, jm 6 1, jv 7 (.bin .lss (.t 5) (.t 6))] []) znL) zkO)
def A64 : AC := (.seq (.reg [] [jv 4 (.mov (jn 0))] []) znv)
def zqr : List An := []
theorem c64 : cC Try.prog Try.f64.ntmps zqr (Try.f64.body.getD .skip) = some A64 := by kernel_rfl
structure H64 (D : Den) (σ : Sig) (F : Nat) : Prop where
 mk ::
abbrev R64 (r : Int) : (Nat → V) → Prop := RR Try.prog [.tmp 4] 0 false (Enc.enc (r : Int))
section
variable {D : Den} {σ : Sig} {F : Nat} {r : Int}
def uI (F : Nat) (x_1 : Int) (x_2 : Int) : Option Int :=
 bif decide (x_1 < x_2) then
  some x_1
 else
  some x_2
theorem t64 (H : H64 D σ F) (x_1 : Int) (x_2 : Int) (s : Nat → V) (hs : zl [(0, ji x_1), (1, ji x_2)] s) (h : uI F x_1 x_2 = some r) : Run D σ (R64 r) (.run A64 []) s := by
 unfold uI at h
 obtain ⟨h0, h1⟩ := hs
 refine .seq (rg (g0 (ji 0) fun h4 => gq (.nsq (.seq (.seq (rg (gm h0 fun h5 => gm h1 fun h6 => g2 5 6 (jb (decide (x_1 < x_2))) h5 h6 fun h7 => gq (.nsq (zi (t := decide (x_1 < x_2)) h7 h (fun h => ?_) (fun h => ?_))))))))))
 · refine .seq (rg (gm h0 fun h8 => gm h8 fun h4 => gq (.nsq (.ret ?_))))
   have hr := Option.some.inj h
   subst hr
   exact rrA (zf h4) rfl
 refine .skip (.nsq (.seq (rg (gm h1 fun h9 => gm h9 fun h4 => gq (.nsq (.ret ?_))))))
 have hr := Option.some.inj h
 subst hr
 exact rrA (zf h4) rfl
end
def e64 (F : Nat) : Ent := ent 64 (fun (x : (Int × Int × Unit)) => uI F x.1 x.2.1) (fun (r : Int) => (Enc.enc (r : Int))) 0 false []
abbrev C64 (D : List V → Option V) (F : Nat) : Prop := ∀ (x0 : Int) (x1 : Int) r, uI F x0 x1 = some r → D [Enc.enc x0, Enc.enc x1] = some (Enc.enc (r : Int))
theorem p64 {F : Nat} : C64 (e64 F).den F := fun x0 x1 _ h => zJ (x0, x1, ()) h
theorem o64 {D : Den} {σ : Sig} {F : Nat} (hF : zu Try.prog D σ) (H : H64 D σ F) : (e64 F).Ok Try.prog := by
 refine yd (f := 64) (show unk 64 = 64 from rfl) (fun args r h => ?_) ⟨Try.f64, Try.func64, rfl, rfl⟩
 obtain ⟨⟨x0, x1, _⟩, y, rfl, hy, rfl⟩ := zH h
 exact zk hF (by kernel_rfl) Try.func64 rfl c64 (show 2 ≤ Try.f64.ntmps by decide) (t64 H x0 x1 _ ⟨rfl, rfl⟩ hy)
def zjq : AC := (.cond (.t 11) .skip (.exit 0))
def zkt : AC := (.reg [] [jm 12 4, jv 13 (.bin .add (.t 12) (jn 1)), jm 4 13] [])
def zj0 : AC := (.seq (.block 1 (.reg [.clr [20, 21]] [jv 14 (.fld (.t 3) 1 1), jv 15 (.load .p (.t 14)), jm 16 4, jm 17 4, jv 18 (.bin .add (.t 17) (jn 1)), jv 19 (.bld (.agg [i0, i0]) [(0, 0, .t 16), (1, 1, .t 18)]), jx 20 (.lit (.agg [i0, i0]) 1 [(0, 0, .t 19)]), jx 21 (.app (.ag [.s, .s]) (.t 15) (.t 20)), jv 22 (.fld (.t 3) 1 1), jz (.store .p (.t 22) (.t 21))] [.drp 6, .home 21 6])) zkt)
def zaY : AC := (.seq (.seq (.reg [] [jm 8 4, jv 9 (.bin .add (.t 8) (jn 1)), jm 10 0, jv 11 (.bin .lss (.t 9) (.t 10))] []) zjq) zj0)
def zeN : AC := (.seq (.reg [] [jv 23 (.load (.ag [.s, .p]) (.t 3)), jz (.store (.ag [.s, .p]) (.t 2) (.t 23))] []) .ret)
def zjo : AC := (.block 0 (.loop zaY))
def zkb : AC := (.seq (.seq (.reg [] [jv 4 (.mov (jn 0))] []) zjo) zeN)
def zkD : AC := (.seq (.reg [.clr [6, 3]] [jm 5 0, jx 6 (.lit (.agg [i0, i0]) 0 []), jv 7 (.bld (.agg [i0, .sl .nl (.ag [.s, .s]) 0 []]) [(0, 0, .t 5), (1, 1, .t 6)]), jx 3 (.alloc (.agg [i0, .sl .nl (.ag [.s, .s]) 0 []])), jz (.store (.ag [.s, .p]) (.t 3) (.t 7))] []) zkb)
def zlb : AC := (.seq (.reg [.clr [2]] [jx 2 (.alloc (.agg [i0, .sl .nl (.ag [.s, .s]) 0 []]))] []) zkD)
def zpx : List An := [⟨0, [.clr [2]], [], [], []⟩, ⟨1, [.clr [6, 3]], [], [], []⟩, ⟨5, [.clr [20, 21]], [], [], [.drp 6, .home 21 6]⟩]
theorem c71o : cC Try.prog Try.f71.ntmps zpx (Try.f71.body.getD .skip) = some zlb := by kernel_rfl
structure zj9 (D : Den) (σ : Sig) (F : Nat) : Prop where
 mk ::
abbrev zld (r : (Int × (NL (Int × Int)))) : (Nat → V) → Prop := RR Try.prog [.cell 2 26] 1 false (.agg [Enc.enc (r.1 : Int), zj .sh (r.2 : NL (Int × Int))])
section
variable {D : Den} {σ : Sig} {F : Nat} {r : (Int × (NL (Int × Int)))}
def ZE (F : Nat) (x_1 : Int)  : Nat → LP → Int → Option (Int × (NL (Int × Int)))
 | 0, _, _ => none
 | k + 1, x_3, x_4 =>
   bif decide ((w64 (x_4 + 1)) < x_1) then
    (wM x_3 [(x_4, w64 (x_4 + 1))]).bind fun ap_6 =>
    (ZE F x_1 k) ap_6 (w64 (x_4 + 1))
   else
    some (x_1, .of x_3)
theorem zdB (H : zj9 D σ F) (x_1 : Int)  : ∀ (k : Nat) (x_3 : LP) (x_4 : Int) (s : Nat → V), zl [(0, ji x_1), (2, bZ 2), (3, .ref (.bx 3) 0 [] (.agg [ji x_1, zj (.at 6 []) (.of (x_3 : LP))])), (4, ji x_4)] s → ZE F x_1 k x_3 x_4 = some r → Run D σ (zld r) (.run zaY [.lp zaY, .bk 0, .sq zeN]) s := by
 intro k
 induction k with
 | zero => intro x_3 x_4 s _ h; exact nm h
 | succ k ih =>
   intro x_3 x_4 s hs h
   rw [ZE] at h
   obtain ⟨h0, h2, h3, h4⟩ := hs
   refine .seq (.seq (rg (gm h4 fun h8 => g1 8 (ji (w64 (x_4 + 1))) h8 fun h9 => gm h0 fun h10 => g2 9 10 (jb (decide ((w64 (x_4 + 1)) < x_1))) h9 h10 fun h11 => gq (.nsq (zi (t := decide ((w64 (x_4 + 1)) < x_1)) h11 h (fun h => ?_) (fun h => ?_))))))
   · refine .skip (.nsq (.seq (.block (zt (zR ?_)))))
     refine ez [(0, _), (2, _), (3, _), (4, _), (20, _), (21, _)] ⟨za h0 rfl mi, za h2 rfl (zh rfl (mIx rfl)), za h3 rfl (zh rfl (zF (ze mi (ze (zm (r := 6) (p := []) rfl rfl) zn)))), za h4 rfl mi, zb rfl, zb rfl⟩ ?_
     rintro s ⟨h0, h2, h3, h4, h20, h21⟩
     refine g1 3 (.ref (.bx 3) 0 [1] (zj (.at 6 []) (.of (x_3 : LP)))) h3 fun h14 => g1 14 (zj (.at 6 []) (.of (x_3 : LP))) h14 fun h15 => gm h4 fun h16 => gm h4 fun h17 => g1 17 (ji (w64 (x_4 + 1))) h17 fun h18 => g2 16 18 (.agg [ji x_4, ji (w64 (x_4 + 1))]) h16 h18 fun h19 => xf [(19, .agg [ji x_4, ji (w64 (x_4 + 1))])] [Enc.enc ((x_4, w64 (x_4 + 1)) : (Int × Int))] h19 rfl rfl h20 ?_
     obtain ⟨ap_6, E_ap_6, h⟩ := bind_some h
     refine XZ (q := 6) (p := []) (o := .of (x_3 : LP)) (ys := ([(x_4, w64 (x_4 + 1))] : LP)) (t2 := .at 20 []) (lo2 := 0) h15 rfl rfl h21 (ZV (o := .of (x_3 : LP)) E_ap_6 trivial) (fun s_12 ha_12 => g1 3 (.ref (.bx 3) 0 [1] (kdO ((.of x_3) : NL (Int × Int)))) (show s_12 3 = (.ref (.bx 3) 0 [] (.agg [ji x_1, kdO ((.of x_3) : NL (Int × Int))])) from uN ha_12 h3 (zh rfl (zF (ze mi (ze YN zn)))) (by intro h; first | (cases h; done) | (subst h; rfl))) fun h22 => z7 (zj (.at 21 []) (.of (ap_6 : LP))) (zy h22 rfl) (zy rfl rfl) ⟨by decide, by decide, rfl, rfl, Kn, Yt rfl rfl⟩ (yE ?_))
     refine X4 (x := 6) (fun s_13 hx_13 hd_13 => yq (r := 21) (x := 6) (v := _) (by exact hx_13) rfl (fun s_14 hg_14 => ?_))
     refine ez [(0, ji x_1), (2, bZ 2), (3, .ref (.bx 3) 0 [] (.agg [ji x_1, zj (.at 6 []) (.of (ap_6 : LP))])), (4, ji x_4)] ⟨hg_14 0 _ _ (show s_13 0 = (ji x_1) from (hd_13 0 (by decide)).trans (zc (show s_12 0 = (ji x_1) from zU ha_12 h0 mi) rfl)) mi, hg_14 2 _ _ (show s_13 2 = (bZ 2) from (hd_13 2 (by decide)).trans (zc (show s_12 2 = (bZ 2) from zU ha_12 h2 (zh rfl (mIx rfl))) (zD rfl rfl (yp (zq rfl (zq rfl rfl)))))) (zh rfl (mIx rfl)), hg_14 3 _ (.ref (.bx 3) 0 [] (.agg [ji x_1, zj (.at 6 []) (.of (ap_6 : LP))])) (show s_13 3 = (.ref (.bx 3) 0 [] (.agg [ji x_1, zj (.at 21 []) (.of (ap_6 : LP))])) from (hd_13 3 (by decide)).trans (zc (show s_12 3 = (.ref (.bx 3) 0 [] (.agg [ji x_1, kdO ((.of x_3) : NL (Int × Int))])) from uN ha_12 h3 (zh rfl (zF (ze mi (ze YN zn)))) (by intro h; first | (cases h; done) | (subst h; rfl))) (XN (zq rfl (zq Kj rfl))))) (zh rfl (zF (ze mi (ze (zm (r := 21) (p := []) rfl rfl) zn)))), hg_14 4 _ _ (show s_13 4 = (ji x_4) from (hd_13 4 (by decide)).trans (zc (show s_12 4 = (ji x_4) from zU ha_12 h4 mi) rfl)) mi⟩ ?_
     rintro s ⟨h0, h2, h3, h4⟩
     refine .nbk (.nsq (rg (gm h4 fun h12 => g1 12 (ji (w64 (x_4 + 1))) h12 fun h13 => gm h13 fun h4 => gq (.nlp ?_))))
     exact ih ap_6 (w64 (x_4 + 1)) _ ⟨h0, h2, h3, h4⟩ h
   refine .exit (.esq (.elp (.ebk (.nsq (.seq (rg (g1 3 (.agg [ji x_1, zj (.at 6 []) (.of (x_3 : LP))]) h3 fun h23 => z7 (.agg [ji x_1, zj (.at 6 []) (.of (x_3 : LP))]) (zy h2 rfl) (zy h23 rfl) (xR (by first | rfl | simp [V.toks, V.tokss, Enc.toks_enc, z4])) (gz [(2, .ref (.bx 2) 0 [] (.agg [ji x_1, zj (.at 6 []) (.of (x_3 : LP))]))] (zc h2 rfl) ?_))))))))
   rintro s h2
   refine .nsq (.ret ?_)
   have hr := Option.some.inj h
   subst hr
   exact rrA (wI h2 (by kernel_rfl)) (Xj (Lm (Zw Ku (Zw (Xc (o := ((.of x_3) : NL (Int × Int)))) Jc))) rfl (Uu (xe rfl (xe (wn rfl) uP))))
def uy (F : Nat) (x_1 : Int) : Option (Int × (NL (Int × Int))) :=
 ZE F x_1 F [] 0
theorem zq2 (H : zj9 D σ F) (x_1 : Int) (s : Nat → V) (hs : zl [(0, ji x_1)] s) (h : uy F x_1 = some r) : Run D σ (zld r) (.run zlb []) s := by
 unfold uy at h
 have h0 := hs
 refine .seq (zt (zR ?_))
 refine ez [(0, _), (2, _)] ⟨za h0 rfl mi, zb rfl⟩ ?_
 rintro s ⟨h0, h2⟩
 refine xp h2 (gq (.nsq (.seq (zt (zR ?_)))))
 refine ez [(0, _), (2, _), (3, _), (6, _)] ⟨za h0 rfl mi, za rfl rfl (zh rfl (mIx rfl)), zb rfl, zb rfl⟩ ?_
 rintro s ⟨h0, h2, h3, h6⟩
 refine gm h0 fun h5 => xf [] [] trivial rfl rfl h6 (g2 5 6 (.agg [ji x_1, zj (.at 6 []) (.of ([] : LP))]) h5 (rf (zj (.at 6 []) (.of ([] : LP)))) fun h7 => xp h3 (z7 (.agg [ji x_1, zj (.at 6 []) (.of ([] : LP))]) (zy rfl rfl) (zy h7 rfl) (xR (by first | rfl | simp [V.toks, V.tokss, Enc.toks_enc, z4])) (gz [(0, ji x_1), (2, bZ 2), (3, .ref (.bx 3) 0 [] (.agg [ji x_1, zj (.at 6 []) (.of ([] : LP))]))] ⟨zc h0 rfl, zc h2 (zD rfl rfl (yp (zq rfl (zq rfl rfl)))), zc rfl rfl⟩ ?_)))
 rintro s ⟨h0, h2, h3⟩
 refine .nsq (.seq (.seq (rg (g0 (ji 0) fun h4 => gq (.nsq (.block (.loop ?_)))))))
 exact zdB H x_1 F [] 0 _ ⟨h0, h2, h3, h4⟩ h
end
def zjs (F : Nat) : Ent := ent 1000000071 (fun (x : (Int × Unit)) => uy F x.1) (fun (r : (Int × (NL (Int × Int)))) => (.agg [Enc.enc (r.1 : Int), zj .sh (r.2 : NL (Int × Int))])) 1 false []
abbrev zjp (D : List V → Option V) (F : Nat) : Prop := ∀ (x0 : Int) r, uy F x0 = some r → D [Enc.enc x0] = some (.agg [Enc.enc (r.1 : Int), zj .sh (r.2 : NL (Int × Int))])
theorem zmn {F : Nat} : zjp (zjs F).den F := fun x0 _ h => zJ (x0, ()) h
theorem zqD {D : Den} {σ : Sig} {F : Nat} (hF : zu Try.prog D σ) (H : zj9 D σ F) : (zjs F).Ok Try.prog := by
 refine yd (f := 71) (show unk 1000000071 = 71 from rfl) (fun args r h => ?_) ⟨Try.f71, Try.func71, rfl, rfl⟩
 obtain ⟨⟨x0, _⟩, y, rfl, hy, rfl⟩ := zH h
 exact zk hF (by kernel_rfl) Try.func71 rfl c71o (show 1 ≤ Try.f71.ntmps by decide) (zq2 H x0 _ rfl hy)
def zon : AC := (.seq (.reg [] [jv 5 (.idxA (.t 2) (jn 0) 2 1), jv 6 (.load .s (.t 5)), jv 7 (.idxA (.t 3) (jn 0) 2 1), jv 8 (.load .s (.t 7)), jv 9 (.bin .lss (.t 6) (.t 8)), jm 10 9, jg 11 10 false (.idxA (.t 2) (jn 0) 2 1), jg 12 10 false (.load .s (.t 11)), jg 13 10 false (.idxA (.t 3) (jn 0) 2 1), jg 14 10 false (.load .s (.t 13)), jg 15 10 false (.bin .eql (.t 12) (.t 14)), jg 16 10 false (.mov (.t 15)), jg 17 16 true (.idxA (.t 2) (jn 1) 2 1), jg 18 16 true (.load .s (.t 17)), jg 19 16 true (.idxA (.t 3) (jn 1) 2 1), jg 20 16 true (.load .s (.t 19)), jg 21 16 true (.bin .lss (.t 18) (.t 20)), jg 22 10 false (.pick (.t 16) (.t 21) kf), jv 23 (.pick (.t 10) kt (.t 22)), jm 4 23] []) .ret)
def A50 : AC := (.seq (.reg [.clr [2, 3]] [jx 2 (.box (.t 0)), jx 3 (.box (.t 1)), jv 4 (.mov kf)] []) zon)
def zqu : List An := [⟨0, [.clr [2, 3]], [], [], []⟩]
theorem c50 : cC Try.prog Try.f50.ntmps zqu (Try.f50.body.getD .skip) = some A50 := by kernel_rfl
structure H50 (D : Den) (σ : Sig) (F : Nat) : Prop where
 mk ::
abbrev R50 (r : Bool) : (Nat → V) → Prop := RR Try.prog [.tmp 4] 0 false (Enc.enc (r : Bool))
section
variable {D : Den} {σ : Sig} {F : Nat} {r : Bool}
def vI (F : Nat) (x_1 : (Int × Int)) (x_2 : (Int × Int)) : Option Bool :=
 bif decide (x_1.1 < x_2.1) then
  some true
 else
  bif (x_1.1 == x_2.1) then
   some (decide (x_1.2 < x_2.2))
  else
   some false
theorem t50 (H : H50 D σ F) (x_1 : (Int × Int)) (x_2 : (Int × Int)) (s : Nat → V) (hs : zl [(0, .agg [ji x_1.1, ji x_1.2]), (1, .agg [ji x_2.1, ji x_2.2])] s) (h : vI F x_1 x_2 = some r) : Run D σ (R50 r) (.run A50 []) s := by
 unfold vI at h
 obtain ⟨h0, h1⟩ := hs
 refine .seq (zt (zR ?_))
 refine ez [(0, _), (1, _), (2, _), (3, _)] ⟨za h0 rfl mII, za h1 rfl mII, zb rfl, zb rfl⟩ ?_
 rintro s ⟨h0, h1, h2, h3⟩
 refine xB (.agg [ji x_1.1, ji x_1.2]) (zy h0 rfl) h2 rfl (xB (.agg [ji x_2.1, ji x_2.2]) (zy h1 rfl) h3 rfl (g0 (jb false) fun h4 => gq (.nsq (.seq (rg (g1 2 (.ref (.bx 2) 0 [0] (ji x_1.1)) (rf (.ref (.bx 2) 0 [] (.agg [ji x_1.1, ji x_1.2]))) fun h5 => g1 5 (ji x_1.1) h5 fun h6 => g1 3 (.ref (.bx 3) 0 [0] (ji x_2.1)) (rf (.ref (.bx 3) 0 [] (.agg [ji x_2.1, ji x_2.2]))) fun h7 => g1 7 (ji x_2.1) h7 fun h8 => g2 6 8 (jb (decide (x_1.1 < x_2.1))) h6 h8 fun h9 => gm h9 fun h10 => zP (c := decide (x_1.1 < x_2.1)) h (fun hg6 h => ?_) (fun hg6 h => ?_)))))))
 · iterate 6 refine ym (ct h10 hg6) ?_
   iterate 5 refine Z0 rfl ?_
   refine ym (ct h10 hg6) (g2 10 22 (jb true) (ct h10 hg6) (rf (.tup [])) fun h23 => gm h23 fun h4 => gq (.nsq (.ret ?_)))
   have hr := Option.some.inj h
   subst hr
   exact rrA (zf h4) rfl
 refine zg (ct h10 hg6) (g1 2 (.ref (.bx 2) 0 [0] (ji x_1.1)) (rf (.ref (.bx 2) 0 [] (.agg [ji x_1.1, ji x_1.2]))) fun h11 => zg (ct h10 hg6) (g1 11 (ji x_1.1) h11 fun h12 => zg (ct h10 hg6) (g1 3 (.ref (.bx 3) 0 [0] (ji x_2.1)) (rf (.ref (.bx 3) 0 [] (.agg [ji x_2.1, ji x_2.2]))) fun h13 => zg (ct h10 hg6) (g1 13 (ji x_2.1) h13 fun h14 => zg (ct h10 hg6) (g2 12 14 (jb (x_1.1 == x_2.1)) h12 h14 fun h15 => zg (ct h10 hg6) (gm h15 fun h16 => zP (c := (x_1.1 == x_2.1)) h (fun hg12 h => ?_) (fun hg12 h => ?_)))))))
 · refine zg (ct h16 hg12) (g1 2 (.ref (.bx 2) 0 [1] (ji x_1.2)) (rf (.ref (.bx 2) 0 [] (.agg [ji x_1.1, ji x_1.2]))) fun h17 => zg (ct h16 hg12) (g1 17 (ji x_1.2) h17 fun h18 => zg (ct h16 hg12) (g1 3 (.ref (.bx 3) 0 [1] (ji x_2.2)) (rf (.ref (.bx 3) 0 [] (.agg [ji x_2.1, ji x_2.2]))) fun h19 => zg (ct h16 hg12) (g1 19 (ji x_2.2) h19 fun h20 => zg (ct h16 hg12) (g2 18 20 (jb (decide (x_1.2 < x_2.2))) h18 h20 fun h21 => zg (ct h10 hg6) (g2 16 21 (jb (decide (x_1.2 < x_2.2))) (ct h16 hg12) h21 fun h22 => g2 10 22 (jb (decide (x_1.2 < x_2.2))) (ct h10 hg6) h22 fun h23 => gm h23 fun h4 => gq (.nsq (.ret ?_))))))))
   have hr := Option.some.inj h
   subst hr
   exact rrA (zf h4) rfl
 iterate 5 refine ym (ct h16 hg12) ?_
 refine zg (ct h10 hg6) (g2 16 21 (jb false) (ct h16 hg12) (rf (.tup [])) fun h22 => g2 10 22 (jb false) (ct h10 hg6) h22 fun h23 => gm h23 fun h4 => gq (.nsq (.ret ?_)))
 have hr := Option.some.inj h
 subst hr
 exact rrA (zf h4) rfl
end
def e50 (F : Nat) : Ent := ent 50 (fun (x : ((Int × Int) × (Int × Int) × Unit)) => vI F x.1 x.2.1) (fun (r : Bool) => (Enc.enc (r : Bool))) 0 false []
abbrev C50 (D : List V → Option V) (F : Nat) : Prop := ∀ (x0 : (Int × Int)) (x1 : (Int × Int)) r, vI F x0 x1 = some r → D [Enc.enc x0, Enc.enc x1] = some (Enc.enc (r : Bool))
theorem p50 {F : Nat} : C50 (e50 F).den F := fun x0 x1 _ h => zJ (x0, x1, ()) h
theorem o50 {D : Den} {σ : Sig} {F : Nat} (hF : zu Try.prog D σ) (H : H50 D σ F) : (e50 F).Ok Try.prog := by
 refine yd (f := 50) (show unk 50 = 50 from rfl) (fun args r h => ?_) ⟨Try.f50, Try.func50, rfl, rfl⟩
 obtain ⟨⟨x0, x1, _⟩, y, rfl, hy, rfl⟩ := zH h
 exact zk hF (by kernel_rfl) Try.func50 rfl c50 (show 2 ≤ Try.f50.ntmps by decide) (t50 H x0 x1 _ ⟨rfl, rfl⟩ hy)
def zeY : AC := (.cond (.t 17) .skip (.exit 0))
def zeR : AC := (.block 1 (.reg [] [jm 18 5, jv 19 (.bin .add (.t 18) (jn 1)), jm 5 19] []))
def Jt : AC := (.seq (.seq (.reg [] [jm 6 5, jm 7 0, jv 8 (.len (.t 7)), jv 9 (.bin .lss (.t 6) (.t 8)), jm 10 9, jg 11 10 true (.mov (.t 0)), jg 12 10 true (.mov (.t 5)), jg 13 10 true (.idx (.t 11) (.t 12) 2), jg 14 10 true (.load (.ag [.s, .s]) (.t 13)), jg 15 10 true (.load (.ag [.s, .s]) (.t 3)), .mk (some 16) (some (10, true)) false (.call (jf 50) [.t 14, .t 15]), jv 17 (.pick (.t 10) (.t 16) kf)] []) zeY) zeR)
def MW : AC := (.seq (.reg [.clr [20, 24, 26, 27, 31]] [jy 20 (.lit (.agg [i0, i0]) 0 []), jm 21 0, jm 22 5, jv 23 (.slice (.t 21) none (some (.t 22)) 2), jy 24 (.appS (.ag [.s, .s]) (.t 20) (.t 23)), jv 25 (.load (.ag [.s, .s]) (.t 3)), jx 26 (.lit (.agg [i0, i0]) 1 [(0, 0, .t 25)]), jy 27 (.appS (.ag [.s, .s]) (.t 24) (.t 26)), jm 28 0, jm 29 5, jv 30 (.slice (.t 28) (some (.t 29)) none 2), jx 31 (.appS (.ag [.s, .s]) (.t 27) (.t 30)), jm 4 31] [.home 31 4]) .ret)
def zjR : AC := (.seq (.block 0 (.loop Jt)) MW)
def ziX : AC := (.seq (.reg [] [jv 5 (.mov (jn 0))] []) zjR)
def zl4 : AC := (.seq (.reg [.clr [3]] [jx 3 (.box (.t 1)), jv 4 (.mov (.k (.sl .nl (.ag [.s, .s]) 0 [])))] []) ziX)
def zlK : List An := [⟨0, [.clr [3]], [], [], []⟩, ⟨4, [.clr [20, 24, 26, 27, 31]], [0, 4, 7], [4, 7, 11], [.home 31 4]⟩]
theorem c74o : cC Try.prog Try.f74.ntmps zlK (Try.f74.body.getD .skip) = some zl4 := by kernel_rfl
structure zhH (D : Den) (σ : Sig) (F : Nat) : Prop where
 c50 : C50 (D 50) F
 g50 : σ 50 = some (0, false)
abbrev zgM (r : (NL (Int × Int))) : (Nat → V) → Prop := RR Try.prog [.tmp 4] 1 false (zj .sh (r : NL (Int × Int)))
section
variable {D : Den} {σ : Sig} {F : Nat} {r : (NL (Int × Int))}
def w4 (F : Nat) (x_1 : LP) (e_2 : (Int × Int)) (x_8 : Int) (c1 : Int → Option (NL (Int × Int))) (x_16 : Bool) : Option (NL (Int × Int)) :=
 bif x_16 then
  c1 (w64 (x_8 + 1))
 else
  (sub x_1 0 x_8).bind fun sub_17 =>
  (wM [] sub_17).bind fun ap_18 =>
  (wM ap_18 [e_2]).bind fun ap_19 =>
  (sub x_1 x_8 (x_1.length : Int)).bind fun sub_20 =>
  (wM ap_19 sub_20).bind fun ap_21 =>
  some (.of ap_21)
theorem Mn (H : zhH D σ F) (x_1 : LP) (e_2 : (Int × Int)) (x_8 : Int) (c1 : Int → Option (NL (Int × Int))) (Hc1 : ∀ (x_8 : Int) (s : Nat → V), zl [(0, eP x_1), (3, .ref (.bx 3) 0 [] (.agg [ji e_2.1, ji e_2.2])), (4, nP), (5, ji x_8)] s → c1 x_8 = some r → Run D σ (zgM r) (.run Jt [.lp Jt, .bk 0, .sq MW]) s) (x_16 : Bool) (s : Nat → V) (hs : zl [(0, eP x_1), (3, .ref (.bx 3) 0 [] (.agg [ji e_2.1, ji e_2.2])), (4, nP), (5, ji x_8), (17, jb x_16)] s) (h : w4 F x_1 e_2 x_8 c1 x_16 = some r) : Run D σ (zgM r) (.nrm [.sq zeY, .sq zeR, .lp Jt, .bk 0, .sq MW]) s := by
 unfold w4 at h
 obtain ⟨h0, h3, h4, h5, h17⟩ := hs
 refine .nsq (zi (t := x_16) h17 h (fun h => ?_) (fun h => ?_))
 · refine .skip (.nsq (.block (rg (gm h5 fun h18 => g1 18 (ji (w64 (x_8 + 1))) h18 fun h19 => gm h19 fun h5 => gq (.nbk (.nlp ?_))))))
   exact Hc1 (w64 (x_8 + 1)) _ ⟨h0, h3, h4, h5⟩ h
 refine .exit (.esq (.elp (.ebk (.nsq (.seq (zt (zR ?_)))))))
 refine ez [(0, _), (3, _), (4, _), (5, _), (20, _), (24, _), (26, _), (27, _), (31, _)] ⟨za h0 rfl me, za h3 rfl (zh rfl mII), za h4 rfl rfl, za h5 rfl mi, zb rfl, zb rfl, zb rfl, zb rfl, zb rfl⟩ ?_
 rintro s ⟨h0, h3, h4, h5, h20, h24, h26, h27, h31⟩
 refine Kc [] [] trivial rfl rfl h20 (gm h0 fun h21 => gm h5 fun h22 => ?_)
 obtain ⟨sub_17, E_sub_17, h⟩ := bind_some h
 refine gv (eP sub_17) (Wj (xs := x_1) h21 (vM) (v5 h22) E_sub_17 rfl) fun h23 => ?_
 obtain ⟨ap_18, E_ap_18, h⟩ := bind_some h
 refine Xz (p := []) (xs := []) (ys := (sub_17 : LP)) (t2 := .sh) (lo2 := 0) rfl h23 rfl h24 rfl E_ap_18 (g1 3 (.agg [ji e_2.1, ji e_2.2]) h3 fun h25 => xf [(25, .agg [ji e_2.1, ji e_2.2])] [Enc.enc (e_2 : (Int × Int))] h25 rfl rfl h26 ?_)
 obtain ⟨ap_19, E_ap_19, h⟩ := bind_some h
 refine Xz (p := []) (xs := ap_18) (ys := ([e_2] : LP)) (t2 := .at 26 []) (lo2 := 0) rfl rfl rfl h27 rfl E_ap_19 (gm h0 fun h28 => gm h5 fun h29 => ?_)
 obtain ⟨sub_20, E_sub_20, h⟩ := bind_some h
 refine gv (eP sub_20) (Wj (xs := x_1) h28 (v5 h29) (vM) E_sub_20 rfl) fun h30 => ?_
 obtain ⟨ap_21, E_ap_21, h⟩ := bind_some h
 refine Xz (p := []) (xs := ap_19) (ys := (sub_20 : LP)) (t2 := .sh) (lo2 := 0) rfl h30 rfl h31 rfl E_ap_21 (gm (rf (zj (.at 31 []) (.of (ap_21 : LP)))) fun h4 => yE (yq (r := 31) (x := 4) (v := _) h4 rfl (fun s_3 hg_3 => ?_)))
 refine ez [(4, zj (.at 4 []) (.of (ap_21 : LP)))] (hg_3 4 _ _ h4 (zm (r := 31) (p := []) rfl rfl)) ?_
 rintro s h4
 refine .nsq (.ret ?_)
 have hr := Option.some.inj h
 subst hr
 exact rrA (zf h4) (Xj (Xc (o := ((.of ap_21) : NL (Int × Int)))) rfl (wn rfl))
def xn (F : Nat) (x_1 : LP) (e_2 : (Int × Int))  : Nat → Int → Option (NL (Int × Int))
 | 0, _ => none
 | k + 1, x_8 =>
   bif decide (x_8 < (x_1.length : Int)) then
    (idx x_1 x_8).bind fun e_22 =>
    (vI F e_22 e_2).bind fun r_23 =>
    w4 F x_1 e_2 x_8 (xn F x_1 e_2 k) r_23
   else
    w4 F x_1 e_2 x_8 (xn F x_1 e_2 k) false
theorem zdS (H : zhH D σ F) (x_1 : LP) (e_2 : (Int × Int))  : ∀ (k : Nat) (x_8 : Int) (s : Nat → V), zl [(0, eP x_1), (3, .ref (.bx 3) 0 [] (.agg [ji e_2.1, ji e_2.2])), (4, nP), (5, ji x_8)] s → xn F x_1 e_2 k x_8 = some r → Run D σ (zgM r) (.run Jt [.lp Jt, .bk 0, .sq MW]) s := by
 intro k
 induction k with
 | zero => intro x_8 s _ h; exact nm h
 | succ k ih =>
   intro x_8 s hs h
   rw [xn] at h
   obtain ⟨h0, h3, h4, h5⟩ := hs
   refine .seq (.seq (rg (gm h5 fun h6 => gm h0 fun h7 => gv (ji (x_1.length : Int)) (yo (xs := x_1) h7) fun h8 => g2 6 8 (jb (decide (x_8 < (x_1.length : Int)))) h6 h8 fun h9 => gm h9 fun h10 => zP (c := decide (x_8 < (x_1.length : Int))) h (fun hg5 h => ?_) (fun hg5 h => ?_))))
   · refine zg (ct h10 hg5) (gm h0 fun h11 => zg (ct h10 hg5) (gm h5 fun h12 => ?_))
     obtain ⟨e_22, E_e_22, h⟩ := bind_some h
     refine zg (ct h10 hg5) (gv (.ref .sh 0 [] (.agg [ji e_22.1, ji e_22.2])) (yu (t := .sh) (lo := 0) (xs := x_1) h11 h12 E_e_22 rfl rfl) fun h13 => zg (ct h10 hg5) (g1 13 (.agg [ji e_22.1, ji e_22.2]) h13 fun h14 => zg (ct h10 hg5) (g1 3 (.agg [ji e_2.1, ji e_2.2]) h3 fun h15 => ?_)))
     obtain ⟨r_23, E_r_23, h⟩ := bind_some h
     refine zg (ct h10 hg5) (zB (m := 0) (al := false) (r := Enc.enc (r_23 : Bool)) [Enc.enc (e_22 : (Int × Int)), Enc.enc (e_2 : (Int × Int))] (zd (v := .agg [ji e_22.1, ji e_22.2]) h14 rfl (Enc.erase_enc (e_22 : (Int × Int))) (zd (v := .agg [ji e_2.1, ji e_2.2]) h15 rfl (Enc.erase_enc (e_2 : (Int × Int))) zw)) (H.c50 _ _ _ E_r_23) H.g50 rfl rfl rfl rfl (g2 10 16 (jb r_23) (ct h10 hg5) (rf (jb r_23)) fun h17 => gq ?_))
     exact Mn H x_1 e_2 x_8 (xn F x_1 e_2 k) ih r_23 _ ⟨h0, h3, h4, h5, h17⟩ h
   iterate 6 refine ym (ct h10 hg5) ?_
   refine g2 10 16 (jb false) (ct h10 hg5) (rf (.tup [])) fun h17 => gq ?_
   exact Mn H x_1 e_2 x_8 (xn F x_1 e_2 k) ih false _ ⟨h0, h3, h4, h5, h17⟩ h
def v6 (F : Nat) (x_1 : LP) (e_2 : (Int × Int)) : Option (NL (Int × Int)) :=
 xn F x_1 e_2 F 0
theorem zpZ (H : zhH D σ F) (x_1 : LP) (e_2 : (Int × Int)) (s : Nat → V) (hs : zl [(0, eP x_1), (1, .agg [ji e_2.1, ji e_2.2])] s) (h : v6 F x_1 e_2 = some r) : Run D σ (zgM r) (.run zl4 []) s := by
 unfold v6 at h
 obtain ⟨h0, h1⟩ := hs
 refine .seq (zt (zR ?_))
 refine ez [(0, _), (1, _), (3, _)] ⟨za h0 rfl me, za h1 rfl mII, zb rfl⟩ ?_
 rintro s ⟨h0, h1, h3⟩
 refine xB (.agg [ji e_2.1, ji e_2.2]) (zy h1 rfl) h3 rfl (g0 nP fun h4 => gq (.nsq (.seq (rg (g0 (ji 0) fun h5 => gq (.nsq (.seq (.block (.loop ?_)))))))))
 exact zdS H x_1 e_2 F 0 _ ⟨h0, rfl, h4, h5⟩ h
end
def ziW (F : Nat) : Ent := ent 1000000074 (fun (x : (LP × (Int × Int) × Unit)) => v6 F x.1 x.2.1) (fun (r : (NL (Int × Int))) => (zj .sh (r : NL (Int × Int)))) 1 false []
abbrev zjd (D : List V → Option V) (F : Nat) : Prop := ∀ (x0 : LP) (x1 : (Int × Int)) r, v6 F x0 x1 = some r → D [Enc.enc x0, Enc.enc x1] = some (zj .sh (r : NL (Int × Int)))
theorem znD {F : Nat} : zjd (ziW F).den F := fun x0 x1 _ h => zJ (x0, x1, ()) h
theorem zrg {D : Den} {σ : Sig} {F : Nat} (hF : zu Try.prog D σ) (H : zhH D σ F) : (ziW F).Ok Try.prog := by
 refine yd (f := 74) (show unk 1000000074 = 74 from rfl) (fun args r h => ?_) ⟨Try.f74, Try.func74, rfl, rfl⟩
 obtain ⟨⟨x0, x1, _⟩, y, rfl, hy, rfl⟩ := zH h
 exact zk hF (by kernel_rfl) Try.func74 rfl c74o (show 2 ≤ Try.f74.ntmps by decide) (zpZ H x0 x1 _ ⟨rfl, rfl⟩ hy)
def zj2 : AC := (.seq (.reg [] [jv 13 (.load (.ag [.s, .p]) (.t 3)), jz (.store (.ag [.s, .p]) (.t 2) (.t 13))] []) .ret)
def zkI : AC := (.seq (.reg [.clr [11]] [jv 6 (.fld (.t 3) 1 1), jv 7 (.load .p (.t 6)), jm 8 0, jv 9 (.bin .sub (.t 8) (jn 1)), jv 10 (.bld (.agg [i0, i0]) [(0, 0, jn 0), (1, 1, .t 9)]), jx 11 (.callO (jf 74) [.t 7, .t 10]), jv 12 (.fld (.t 3) 1 1), jz (.store .p (.t 12) (.t 11))] [.drp 5, .home 11 5]) zj2)
def zi5 : AC := (.seq (.reg [.clr [5, 3]] [jm 4 0, jx 5 (.callO (jf 71) [.t 4]), jx 3 (.alloc (.agg [i0, .sl .nl (.ag [.s, .s]) 0 []])), jz (.store (.ag [.s, .p]) (.t 3) (.t 5))] []) zkI)
def zmj : AC := (.seq (.reg [.clr [2]] [jx 2 (.alloc (.agg [i0, .sl .nl (.ag [.s, .s]) 0 []]))] []) zi5)
def zpw : List An := [⟨0, [.clr [2]], [], [], []⟩, ⟨1, [.clr [5, 3]], [], [1001], []⟩, ⟨2, [.clr [11]], [], [1005], [.drp 5, .home 11 5]⟩]
theorem c72o : cC Try.prog Try.f72.ntmps zpw (Try.f72.body.getD .skip) = some zmj := by kernel_rfl
structure zn6 (D : Den) (σ : Sig) (F : Nat) : Prop where
 c71o : zjp (D 1000000071) F
 g71o : σ 1000000071 = some (1, false)
 c74o : zjd (D 1000000074) F
 g74o : σ 1000000074 = some (1, false)
abbrev zq5 (r : (Int × (NL (Int × Int)))) : (Nat → V) → Prop := RR Try.prog [.cell 2 26] 1 false (.agg [Enc.enc (r.1 : Int), zj .sh (r.2 : NL (Int × Int))])
section
variable {D : Den} {σ : Sig} {F : Nat} {r : (Int × (NL (Int × Int)))}
def vD (F : Nat) (x_1 : Int) : Option (Int × (NL (Int × Int))) :=
 (uy F x_1).bind fun r_2 =>
 (v6 F r_2.2.list (0, w64 (x_1 - 1))).bind fun r_3 =>
 some (r_2.1, r_3)
theorem zqC (H : zn6 D σ F) (x_1 : Int) (s : Nat → V) (hs : zl [(0, ji x_1)] s) (h : vD F x_1 = some r) : Run D σ (zq5 r) (.run zmj []) s := by
 unfold vD at h
 have h0 := hs
 refine .seq (zt (zR ?_))
 refine ez [(0, _), (2, _)] ⟨za h0 rfl mi, zb rfl⟩ ?_
 rintro s ⟨h0, h2⟩
 refine xp h2 (gq (.nsq (.seq (zt (zR ?_)))))
 refine ez [(0, _), (2, _), (3, _), (5, _)] ⟨za h0 rfl mi, za rfl rfl (zh rfl (mIx rfl)), zb rfl, zb rfl⟩ ?_
 rintro s ⟨h0, h2, h3, h5⟩
 refine gm h0 fun h4 => ?_
 obtain ⟨r_2, E_r_2, h⟩ := bind_some h
 refine YG (m := 1) (al := false) (r := .agg [Enc.enc (r_2.1 : Int), zj .sh (r_2.2 : NL (Int × Int))]) (v := .agg [ji r_2.1, zj (.at 5 [1]) (r_2.2 : NL (Int × Int))]) (kk := 1000000071) [Enc.enc (x_1 : Int)] (zd (v := ji x_1) h4 rfl rfl zw) (H.c71o _ _ E_r_2) H.g71o rfl (UG (z9 rfl (z9 vV yn))) (Kb (uH rfl (uH Za Uz))) rfl h5 (xp h3 ?_)
 refine z7 (.agg [ji r_2.1, zj (.at 5 [1]) (r_2.2 : NL (Int × Int))]) (zy rfl rfl) (zy rfl rfl) ⟨by decide, by decide, rfl, (by simp [V.shape, V.shapes, xr, Sh.beq, Sh.beqs]), (by simp [V.shape, V.shapes, xr, Sh.beq, Sh.beqs]), (by simp [V.toks, V.tokss, z4])⟩ (gz [(0, ji x_1), (2, bZ 2), (3, .ref (.bx 3) 0 [] (.agg [ji r_2.1, zj (.at 5 [1]) (r_2.2 : NL (Int × Int))]))] ⟨zc h0 rfl, zc h2 (zD rfl rfl (yp (zq rfl (zq rfl rfl)))), zc rfl rfl⟩ ?_)
 rintro s ⟨h0, h2, h3⟩
 refine .nsq (.seq (zt (zR ?_)))
 refine ez [(0, _), (2, _), (3, _), (11, _)] ⟨za h0 rfl mi, za h2 rfl (zh rfl (mIx rfl)), za h3 rfl (zh rfl (zF (ze mi (ze (zm (r := 5) (p := [1]) rfl rfl) zn)))), zb rfl⟩ ?_
 rintro s ⟨h0, h2, h3, h11⟩
 refine g1 3 (.ref (.bx 3) 0 [1] (zj (.at 5 [1]) (r_2.2 : NL (Int × Int)))) h3 fun h6 => gv (zj (.at 5 [1]) (r_2.2 : NL (Int × Int))) (Xi h6 KJ) fun h7 => gm h0 fun h8 => g1 8 (ji (w64 (x_1 - 1))) h8 fun h9 => g1 9 (.agg [ji 0, ji (w64 (x_1 - 1))]) h9 fun h10 => ?_
 obtain ⟨r_3, E_r_3, h⟩ := bind_some h
 refine YG (m := 1) (al := false) (r := zj .sh (r_3 : NL (Int × Int))) (v := zj (.at 11 []) (r_3 : NL (Int × Int))) (kk := 1000000074) [eP r_2.2.list, Enc.enc ((0, w64 (x_1 - 1)) : (Int × Int))] (zd (v := zj (.at 5 [1]) (r_2.2 : NL (Int × Int))) h7 um (w3 (o := r_2.2)) (zd (v := .agg [ji 0, ji (w64 (x_1 - 1))]) h10 rfl (Enc.erase_enc ((0, w64 (x_1 - 1)) : (Int × Int))) zw)) (H.c74o _ _ _ E_r_3) H.g74o rfl vV Za um h11 (g1 3 (.ref (.bx 3) 0 [1] (zj (.at 5 [1]) (r_2.2 : NL (Int × Int)))) h3 fun h12 => ?_)
 refine z7 (zj (.at 11 []) (r_3 : NL (Int × Int))) (zy h12 rfl) (zy rfl um) ⟨by decide, by decide, Kp, Xt, Xt, Yt rfl rfl⟩ (yE (X4 (x := 5) (fun s_4 hx_4 hd_4 => yq (r := 11) (x := 5) (v := _) (by exact hx_4) rfl (fun s_5 hg_5 => ?_))))
 refine ez [(2, bZ 2), (3, .ref (.bx 3) 0 [] (.agg [ji r_2.1, zj (.at 5 []) (r_3 : NL (Int × Int))]))] ⟨hg_5 2 _ _ (show s_4 2 = (bZ 2) from (hd_4 2 (by decide)).trans (zc h2 (zD rfl rfl (yp (zq rfl (zq rfl rfl)))))) (zh rfl (mIx rfl)), hg_5 3 _ (.ref (.bx 3) 0 [] (.agg [ji r_2.1, zj (.at 5 []) (r_3 : NL (Int × Int))])) (show s_4 3 = (.ref (.bx 3) 0 [] (.agg [ji r_2.1, zj (.at 11 []) (r_3 : NL (Int × Int))])) from (hd_4 3 (by decide)).trans (zc h3 (XN (zq rfl (zq (wX rfl rfl) rfl))))) (zh rfl (zF (ze mi (ze (zm (r := 11) (p := []) rfl rfl) zn))))⟩ ?_
 rintro s ⟨h2, h3⟩
 refine .nsq (.seq (rg (gv (.agg [ji r_2.1, zj (.at 5 []) (r_3 : NL (Int × Int))]) (Xi (c := .agg [ji r_2.1, zj (.at 5 []) (r_3 : NL (Int × Int))]) h3 (by simp [V.shape, V.shapes, xr, W8, Sh.beq, Sh.beqs])) fun h13 => z7 (.agg [ji r_2.1, zj (.at 5 []) (r_3 : NL (Int × Int))]) (zy h2 rfl) (zy h13 rfl) ⟨by decide, by decide, rfl, (by simp [V.shape, V.shapes, xr, Sh.beq, Sh.beqs]), (by simp [V.shape, V.shapes, xr, Sh.beq, Sh.beqs]), (by simp [V.toks, V.tokss, z4])⟩ (gz [(2, .ref (.bx 2) 0 [] (.agg [ji r_2.1, zj (.at 5 []) (r_3 : NL (Int × Int))]))] (zc h2 rfl) ?_))))
 rintro s h2
 refine .nsq (.ret ?_)
 have hr := Option.some.inj h
 subst hr
 exact rrA (wI h2 (by simp only [V.shape, V.shapes, xr]; kernel_rfl)) (Xj (Lm (Zw Ku (Zw (Xc (o := (r_3 : NL (Int × Int)))) Jc))) rfl (Uu (xe rfl (xe (wn rfl) uP))))
end
def zkv (F : Nat) : Ent := ent 1000000072 (fun (x : (Int × Unit)) => vD F x.1) (fun (r : (Int × (NL (Int × Int)))) => (.agg [Enc.enc (r.1 : Int), zj .sh (r.2 : NL (Int × Int))])) 1 false []
abbrev zop (D : List V → Option V) (F : Nat) : Prop := ∀ (x0 : Int) r, vD F x0 = some r → D [Enc.enc x0] = some (.agg [Enc.enc (r.1 : Int), zj .sh (r.2 : NL (Int × Int))])
theorem zqf {F : Nat} : zop (zkv F).den F := fun x0 _ h => zJ (x0, ()) h
theorem zrq {D : Den} {σ : Sig} {F : Nat} (hF : zu Try.prog D σ) (H : zn6 D σ F) : (zkv F).Ok Try.prog := by
 refine yd (f := 72) (show unk 1000000072 = 72 from rfl) (fun args r h => ?_) ⟨Try.f72, Try.func72, rfl, rfl⟩
 obtain ⟨⟨x0, _⟩, y, rfl, hy, rfl⟩ := zH h
 exact zk hF (by kernel_rfl) Try.func72 rfl c72o (show 1 ≤ Try.f72.ntmps by decide) (zqC H x0 _ rfl hy)
def zjj : AC := (.cond (.t 11) .skip (.exit 0))
def zkr : AC := (.cond (.t 18) .skip (.exit 2))
def zjA : AC := (.reg [] [jm 19 5, jv 20 (.bin .add (.t 19) (jn 1)), jm 5 20] [])
def zjk : AC := (.seq (.block 3 (.reg [.clr [26, 27]] [jv 21 (.fld (.t 3) 1 1), jv 22 (.load .p (.t 21)), jm 23 4, jm 24 5, jv 25 (.bld (.agg [i0, i0]) [(0, 0, .t 23), (1, 1, .t 24)]), jx 26 (.lit (.agg [i0, i0]) 1 [(0, 0, .t 25)]), jx 27 (.app (.ag [.s, .s]) (.t 22) (.t 26)), jv 28 (.fld (.t 3) 1 1), jz (.store .p (.t 28) (.t 27))] [.drp 7, .home 27 7])) zjA)
def zbe : AC := (.seq (.seq (.reg [] [jm 16 5, jm 17 0, jv 18 (.bin .lss (.t 16) (.t 17))] []) zkr) zjk)
def zjT : AC := (.block 2 (.loop zbe))
def zgh : AC := (.reg [] [jm 12 4, jv 13 (.bin .add (.t 12) (jn 1)), jm 4 13] [])
def zjV : AC := (.seq (.block 1 (.seq (.reg [] [jm 14 4, jv 15 (.bin .add (.t 14) (jn 1)), jm 5 15] []) zjT)) zgh)
def U8 : AC := (.seq (.seq (.reg [] [jm 9 4, jm 10 0, jv 11 (.bin .lss (.t 9) (.t 10))] []) zjj) zjV)
def Kh : AC := (.seq (.reg [] [jv 29 (.load (.ag [.s, .p]) (.t 3)), jz (.store (.ag [.s, .p]) (.t 2) (.t 29))] []) .ret)
def zhf : AC := (.block 0 (.loop U8))
def zhs : AC := (.seq (.seq (.reg [] [jv 4 (.mov (jn 0))] []) zhf) Kh)
def zhm : AC := (.seq (.reg [.clr [7, 3]] [jm 6 0, jx 7 (.lit (.agg [i0, i0]) 0 []), jv 8 (.bld (.agg [i0, .sl .nl (.ag [.s, .s]) 0 []]) [(0, 0, .t 6), (1, 1, .t 7)]), jx 3 (.alloc (.agg [i0, .sl .nl (.ag [.s, .s]) 0 []])), jz (.store (.ag [.s, .p]) (.t 3) (.t 8))] []) zhs)
def zlq : AC := (.seq (.reg [.clr [2]] [jx 2 (.alloc (.agg [i0, .sl .nl (.ag [.s, .s]) 0 []]))] []) zhm)
def zlk : List An := [⟨0, [.clr [2]], [], [], []⟩, ⟨1, [.clr [7, 3]], [], [], []⟩, ⟨8, [.clr [26, 27]], [], [], [.drp 7, .home 27 7]⟩]
theorem c73o : cC Try.prog Try.f73.ntmps zlk (Try.f73.body.getD .skip) = some zlq := by kernel_rfl
structure zhP (D : Den) (σ : Sig) (F : Nat) : Prop where
 mk ::
abbrev zgL (r : (Int × (NL (Int × Int)))) : (Nat → V) → Prop := RR Try.prog [.cell 2 26] 1 false (.agg [Enc.enc (r.1 : Int), zj .sh (r.2 : NL (Int × Int))])
section
variable {D : Den} {σ : Sig} {F : Nat} {r : (Int × (NL (Int × Int)))}
def vq (F : Nat) (x_1 : Int) (x_8 : Int) (c1 : LP → Int → Option (Int × (NL (Int × Int)))) : Nat → LP → Int → Option (Int × (NL (Int × Int)))
 | 0, _, _ => none
 | k + 1, x_15, x_16 =>
   bif decide (x_16 < x_1) then
    (wM x_15 [(x_8, x_16)]).bind fun ap_18 =>
    (vq F x_1 x_8 c1 k) ap_18 (w64 (x_16 + 1))
   else
    c1 x_15 (w64 (x_8 + 1))
theorem zdm (H : zhP D σ F) (x_1 : Int) (x_8 : Int) (c1 : LP → Int → Option (Int × (NL (Int × Int)))) (Hc1 : ∀ (x_7 : LP) (x_8 : Int) (s : Nat → V), zl [(0, ji x_1), (2, bZ 2), (3, .ref (.bx 3) 0 [] (.agg [ji x_1, zj (.at 7 []) (.of (x_7 : LP))])), (4, ji x_8)] s → c1 x_7 x_8 = some r → Run D σ (zgL r) (.run U8 [.lp U8, .bk 0, .sq Kh]) s) : ∀ (k : Nat) (x_15 : LP) (x_16 : Int) (s : Nat → V), zl [(0, ji x_1), (2, bZ 2), (3, .ref (.bx 3) 0 [] (.agg [ji x_1, zj (.at 7 []) (.of (x_15 : LP))])), (4, ji x_8), (5, ji x_16)] s → vq F x_1 x_8 c1 k x_15 x_16 = some r → Run D σ (zgL r) (.run zbe [.lp zbe, .bk 2, .bk 1, .sq zgh, .lp U8, .bk 0, .sq Kh]) s := by
 intro k
 induction k with
 | zero => intro x_15 x_16 s _ h; exact nm h
 | succ k ih =>
   intro x_15 x_16 s hs h
   rw [vq] at h
   obtain ⟨h0, h2, h3, h4, h5⟩ := hs
   refine .seq (.seq (rg (gm h5 fun h16 => gm h0 fun h17 => g2 16 17 (jb (decide (x_16 < x_1))) h16 h17 fun h18 => gq (.nsq (zi (t := decide (x_16 < x_1)) h18 h (fun h => ?_) (fun h => ?_))))))
   · refine .skip (.nsq (.seq (.block (zt (zR ?_)))))
     refine ez [(0, _), (2, _), (3, _), (4, _), (5, _), (26, _), (27, _)] ⟨za h0 rfl mi, za h2 rfl (zh rfl (mIx rfl)), za h3 rfl (zh rfl (zF (ze mi (ze (zm (r := 7) (p := []) rfl rfl) zn)))), za h4 rfl mi, za h5 rfl mi, zb rfl, zb rfl⟩ ?_
     rintro s ⟨h0, h2, h3, h4, h5, h26, h27⟩
     refine g1 3 (.ref (.bx 3) 0 [1] (zj (.at 7 []) (.of (x_15 : LP)))) h3 fun h21 => g1 21 (zj (.at 7 []) (.of (x_15 : LP))) h21 fun h22 => gm h4 fun h23 => gm h5 fun h24 => g2 23 24 (.agg [ji x_8, ji x_16]) h23 h24 fun h25 => xf [(25, .agg [ji x_8, ji x_16])] [Enc.enc ((x_8, x_16) : (Int × Int))] h25 rfl rfl h26 ?_
     obtain ⟨ap_18, E_ap_18, h⟩ := bind_some h
     refine XZ (q := 7) (p := []) (o := .of (x_15 : LP)) (ys := ([(x_8, x_16)] : LP)) (t2 := .at 26 []) (lo2 := 0) h22 rfl rfl h27 (ZV (o := .of (x_15 : LP)) E_ap_18 trivial) (fun s_36 ha_36 => g1 3 (.ref (.bx 3) 0 [1] (kdO ((.of x_15) : NL (Int × Int)))) (show s_36 3 = (.ref (.bx 3) 0 [] (.agg [ji x_1, kdO ((.of x_15) : NL (Int × Int))])) from uN ha_36 h3 (zh rfl (zF (ze mi (ze YN zn)))) (by intro h; first | (cases h; done) | (subst h; rfl))) fun h28 => z7 (zj (.at 27 []) (.of (ap_18 : LP))) (zy h28 rfl) (zy rfl rfl) ⟨by decide, by decide, rfl, rfl, Kn, Yt rfl rfl⟩ (yE ?_))
     refine X4 (x := 7) (fun s_37 hx_37 hd_37 => yq (r := 27) (x := 7) (v := _) (by exact hx_37) rfl (fun s_38 hg_38 => ?_))
     refine ez [(0, ji x_1), (2, bZ 2), (3, .ref (.bx 3) 0 [] (.agg [ji x_1, zj (.at 7 []) (.of (ap_18 : LP))])), (4, ji x_8), (5, ji x_16)] ⟨hg_38 0 _ _ (show s_37 0 = (ji x_1) from (hd_37 0 (by decide)).trans (zc (show s_36 0 = (ji x_1) from zU ha_36 h0 mi) rfl)) mi, hg_38 2 _ _ (show s_37 2 = (bZ 2) from (hd_37 2 (by decide)).trans (zc (show s_36 2 = (bZ 2) from zU ha_36 h2 (zh rfl (mIx rfl))) (zD rfl rfl (yp (zq rfl (zq rfl rfl)))))) (zh rfl (mIx rfl)), hg_38 3 _ (.ref (.bx 3) 0 [] (.agg [ji x_1, zj (.at 7 []) (.of (ap_18 : LP))])) (show s_37 3 = (.ref (.bx 3) 0 [] (.agg [ji x_1, zj (.at 27 []) (.of (ap_18 : LP))])) from (hd_37 3 (by decide)).trans (zc (show s_36 3 = (.ref (.bx 3) 0 [] (.agg [ji x_1, kdO ((.of x_15) : NL (Int × Int))])) from uN ha_36 h3 (zh rfl (zF (ze mi (ze YN zn)))) (by intro h; first | (cases h; done) | (subst h; rfl))) (XN (zq rfl (zq Kj rfl))))) (zh rfl (zF (ze mi (ze (zm (r := 27) (p := []) rfl rfl) zn)))), hg_38 4 _ _ (show s_37 4 = (ji x_8) from (hd_37 4 (by decide)).trans (zc (show s_36 4 = (ji x_8) from zU ha_36 h4 mi) rfl)) mi, hg_38 5 _ _ (show s_37 5 = (ji x_16) from (hd_37 5 (by decide)).trans (zc (show s_36 5 = (ji x_16) from zU ha_36 h5 mi) rfl)) mi⟩ ?_
     rintro s ⟨h0, h2, h3, h4, h5⟩
     refine .nbk (.nsq (rg (gm h5 fun h19 => g1 19 (ji (w64 (x_16 + 1))) h19 fun h20 => gm h20 fun h5 => gq (.nlp ?_))))
     exact ih ap_18 (w64 (x_16 + 1)) _ ⟨h0, h2, h3, h4, h5⟩ h
   refine .exit (.esq (.elp (.ebk (.nbk (.nsq (rg (gm h4 fun h12 => g1 12 (ji (w64 (x_8 + 1))) h12 fun h13 => gm h13 fun h4 => gq (.nlp ?_))))))))
   exact Hc1 x_15 (w64 (x_8 + 1)) _ ⟨h0, h2, h3, h4⟩ h
def wx (F : Nat) (x_1 : Int)  : Nat → LP → Int → Option (Int × (NL (Int × Int)))
 | 0, _, _ => none
 | k + 1, x_7, x_8 =>
   bif decide (x_8 < x_1) then
    vq F x_1 x_8 (wx F x_1 k) F x_7 (w64 (x_8 + 1))
   else
    some (x_1, .of x_7)
theorem zdl (H : zhP D σ F) (x_1 : Int)  : ∀ (k : Nat) (x_7 : LP) (x_8 : Int) (s : Nat → V), zl [(0, ji x_1), (2, bZ 2), (3, .ref (.bx 3) 0 [] (.agg [ji x_1, zj (.at 7 []) (.of (x_7 : LP))])), (4, ji x_8)] s → wx F x_1 k x_7 x_8 = some r → Run D σ (zgL r) (.run U8 [.lp U8, .bk 0, .sq Kh]) s := by
 intro k
 induction k with
 | zero => intro x_7 x_8 s _ h; exact nm h
 | succ k ih =>
   intro x_7 x_8 s hs h
   rw [wx] at h
   obtain ⟨h0, h2, h3, h4⟩ := hs
   refine .seq (.seq (rg (gm h4 fun h9 => gm h0 fun h10 => g2 9 10 (jb (decide (x_8 < x_1))) h9 h10 fun h11 => gq (.nsq (zi (t := decide (x_8 < x_1)) h11 h (fun h => ?_) (fun h => ?_))))))
   · refine .skip (.nsq (.seq (.block (.seq (rg (gm h4 fun h14 => g1 14 (ji (w64 (x_8 + 1))) h14 fun h15 => gm h15 fun h5 => gq (.nsq (.block (.loop ?_)))))))))
     exact zdm H x_1 x_8 (wx F x_1 k) ih F x_7 (w64 (x_8 + 1)) _ ⟨h0, h2, h3, h4, h5⟩ h
   refine .exit (.esq (.elp (.ebk (.nsq (.seq (rg (g1 3 (.agg [ji x_1, zj (.at 7 []) (.of (x_7 : LP))]) h3 fun h29 => z7 (.agg [ji x_1, zj (.at 7 []) (.of (x_7 : LP))]) (zy h2 rfl) (zy h29 rfl) (xR (by first | rfl | simp [V.toks, V.tokss, Enc.toks_enc, z4])) (gz [(2, .ref (.bx 2) 0 [] (.agg [ji x_1, zj (.at 7 []) (.of (x_7 : LP))]))] (zc h2 rfl) ?_))))))))
   rintro s h2
   refine .nsq (.ret ?_)
   have hr := Option.some.inj h
   subst hr
   exact rrA (wI h2 (by kernel_rfl)) (Xj (Lm (Zw Ku (Zw (Xc (o := ((.of x_7) : NL (Int × Int)))) Jc))) rfl (Uu (xe rfl (xe (wn rfl) uP))))
def wR (F : Nat) (x_1 : Int) : Option (Int × (NL (Int × Int))) :=
 wx F x_1 F [] 0
theorem zrk (H : zhP D σ F) (x_1 : Int) (s : Nat → V) (hs : zl [(0, ji x_1)] s) (h : wR F x_1 = some r) : Run D σ (zgL r) (.run zlq []) s := by
 unfold wR at h
 have h0 := hs
 refine .seq (zt (zR ?_))
 refine ez [(0, _), (2, _)] ⟨za h0 rfl mi, zb rfl⟩ ?_
 rintro s ⟨h0, h2⟩
 refine xp h2 (gq (.nsq (.seq (zt (zR ?_)))))
 refine ez [(0, _), (2, _), (3, _), (7, _)] ⟨za h0 rfl mi, za rfl rfl (zh rfl (mIx rfl)), zb rfl, zb rfl⟩ ?_
 rintro s ⟨h0, h2, h3, h7⟩
 refine gm h0 fun h6 => xf [] [] trivial rfl rfl h7 (g2 6 7 (.agg [ji x_1, zj (.at 7 []) (.of ([] : LP))]) h6 (rf (zj (.at 7 []) (.of ([] : LP)))) fun h8 => xp h3 (z7 (.agg [ji x_1, zj (.at 7 []) (.of ([] : LP))]) (zy rfl rfl) (zy h8 rfl) (xR (by first | rfl | simp [V.toks, V.tokss, Enc.toks_enc, z4])) (gz [(0, ji x_1), (2, bZ 2), (3, .ref (.bx 3) 0 [] (.agg [ji x_1, zj (.at 7 []) (.of ([] : LP))]))] ⟨zc h0 rfl, zc h2 (zD rfl rfl (yp (zq rfl (zq rfl rfl)))), zc rfl rfl⟩ ?_)))
 rintro s ⟨h0, h2, h3⟩
 refine .nsq (.seq (.seq (rg (g0 (ji 0) fun h4 => gq (.nsq (.block (.loop ?_)))))))
 exact zdl H x_1 F [] 0 _ ⟨h0, h2, h3, h4⟩ h
end
def zi3 (F : Nat) : Ent := ent 1000000073 (fun (x : (Int × Unit)) => wR F x.1) (fun (r : (Int × (NL (Int × Int)))) => (.agg [Enc.enc (r.1 : Int), zj .sh (r.2 : NL (Int × Int))])) 1 false []
abbrev zoj (D : List V → Option V) (F : Nat) : Prop := ∀ (x0 : Int) r, wR F x0 = some r → D [Enc.enc x0] = some (.agg [Enc.enc (r.1 : Int), zj .sh (r.2 : NL (Int × Int))])
theorem zqK {F : Nat} : zoj (zi3 F).den F := fun x0 _ h => zJ (x0, ()) h
theorem zp8 {D : Den} {σ : Sig} {F : Nat} (hF : zu Try.prog D σ) (H : zhP D σ F) : (zi3 F).Ok Try.prog := by
 refine yd (f := 73) (show unk 1000000073 = 73 from rfl) (fun args r h => ?_) ⟨Try.f73, Try.func73, rfl, rfl⟩
 obtain ⟨⟨x0, _⟩, y, rfl, hy, rfl⟩ := zH h
 exact zk hF (by kernel_rfl) Try.func73 rfl c73o (show 1 ≤ Try.f73.ntmps by decide) (zrk H x0 _ rfl hy)
def zm5 : AC := (.cond (.t 7) (.seq (.reg [] [jm 8 0, jm 4 8] []) .ret) .skip)
def zna : AC := (.seq (.reg [] [jm 9 1, jm 4 9] []) .ret)
def zmO : AC := (.seq (.seq (.reg [] [jm 5 0, jm 6 1, jv 7 (.bin .gtr (.t 5) (.t 6))] []) zm5) zna)
def A39 : AC := (.seq (.reg [] [jv 4 (.mov (jn 0))] []) zmO)
def zq0 : List An := []
theorem c39 : cC Try.prog Try.f39.ntmps zq0 (Try.f39.body.getD .skip) = some A39 := by kernel_rfl
structure H39 (D : Den) (σ : Sig) (F : Nat) : Prop where
 mk ::
abbrev R39 (r : Int) : (Nat → V) → Prop := RR Try.prog [.tmp 4] 0 false (Enc.enc (r : Int))
section
variable {D : Den} {σ : Sig} {F : Nat} {r : Int}
def uc (F : Nat) (x_1 : Int) (x_2 : Int) : Option Int :=
 bif decide (x_1 > x_2) then
  some x_1
 else
  some x_2
theorem t39 (H : H39 D σ F) (x_1 : Int) (x_2 : Int) (s : Nat → V) (hs : zl [(0, ji x_1), (1, ji x_2)] s) (h : uc F x_1 x_2 = some r) : Run D σ (R39 r) (.run A39 []) s := by
 unfold uc at h
 obtain ⟨h0, h1⟩ := hs
 refine .seq (rg (g0 (ji 0) fun h4 => gq (.nsq (.seq (.seq (rg (gm h0 fun h5 => gm h1 fun h6 => g2 5 6 (jb (decide (x_1 > x_2))) h5 h6 fun h7 => gq (.nsq (zi (t := decide (x_1 > x_2)) h7 h (fun h => ?_) (fun h => ?_))))))))))
 · refine .seq (rg (gm h0 fun h8 => gm h8 fun h4 => gq (.nsq (.ret ?_))))
   have hr := Option.some.inj h
   subst hr
   exact rrA (zf h4) rfl
 refine .skip (.nsq (.seq (rg (gm h1 fun h9 => gm h9 fun h4 => gq (.nsq (.ret ?_))))))
 have hr := Option.some.inj h
 subst hr
 exact rrA (zf h4) rfl
end
def e39 (F : Nat) : Ent := ent 39 (fun (x : (Int × Int × Unit)) => uc F x.1 x.2.1) (fun (r : Int) => (Enc.enc (r : Int))) 0 false []
abbrev C39 (D : List V → Option V) (F : Nat) : Prop := ∀ (x0 : Int) (x1 : Int) r, uc F x0 x1 = some r → D [Enc.enc x0, Enc.enc x1] = some (Enc.enc (r : Int))
theorem p39 {F : Nat} : C39 (e39 F).den F := fun x0 x1 _ h => zJ (x0, x1, ()) h
theorem o39 {D : Den} {σ : Sig} {F : Nat} (hF : zu Try.prog D σ) (H : H39 D σ F) : (e39 F).Ok Try.prog := by
 refine yd (f := 39) (show unk 39 = 39 from rfl) (fun args r h => ?_) ⟨Try.f39, Try.func39, rfl, rfl⟩
 obtain ⟨⟨x0, x1, _⟩, y, rfl, hy, rfl⟩ := zH h
 exact zk hF (by kernel_rfl) Try.func39 rfl c39 (show 2 ≤ Try.f39.ntmps by decide) (t39 H x0 x1 _ ⟨rfl, rfl⟩ hy)
def zpt : AC := (.cond (.t 13) .skip (.exit 0))
def ziI : AC := (.cond (.t 42) (.seq (.reg [] [jv 6 (.mov kt)] []) .ret) .skip)
def zmx : AC := (.seq (.reg [] [jv 21 (.idxA (.t 8) (jn 0) 2 1), jv 22 (.load .s (.t 21)), jm 23 1, jv 24 (.bin .eql (.t 22) (.t 23)), jm 25 24, jg 26 25 true (.idxA (.t 8) (jn 1) 2 1), jg 27 25 true (.load .s (.t 26)), jg 28 25 true (.mov (.t 2)), jg 29 25 true (.bin .eql (.t 27) (.t 28)), jv 30 (.pick (.t 25) (.t 29) kf), jm 31 30, jg 32 31 false (.idxA (.t 8) (jn 0) 2 1), jg 33 31 false (.load .s (.t 32)), jg 34 31 false (.mov (.t 2)), jg 35 31 false (.bin .eql (.t 33) (.t 34)), jg 36 31 false (.mov (.t 35)), jg 37 36 true (.idxA (.t 8) (jn 1) 2 1), jg 38 36 true (.load .s (.t 37)), jg 39 36 true (.mov (.t 1)), jg 40 36 true (.bin .eql (.t 38) (.t 39)), jg 41 31 false (.pick (.t 36) (.t 40) kf), jv 42 (.pick (.t 31) kt (.t 41))] []) ziI)
def ziS : AC := (.reg [] [jm 14 7, jv 15 (.bin .add (.t 14) (jn 1)), jm 7 15] [])
def zlg : AC := (.seq (.block 1 (.seq (.reg [.clr [8]] [jv 16 (.fld (.t 3) 1 1), jv 17 (.load .p (.t 16)), jm 18 7, jv 19 (.idx (.t 17) (.t 18) 2), jv 20 (.load (.ag [.s, .s]) (.t 19)), jx 8 (.alloc (.agg [i0, i0])), jz (.store (.ag [.s, .s]) (.t 8) (.t 20))] []) zmx)) ziS)
def LK : AC := (.seq (.seq (.reg [] [jm 9 7, jv 10 (.fld (.t 3) 1 1), jv 11 (.load .p (.t 10)), jv 12 (.len (.t 11)), jv 13 (.bin .lss (.t 9) (.t 12))] []) zpt) zlg)
def zbF : AC := (.seq (.reg [] [jv 6 (.mov kf)] []) .ret)
def zoI : AC := (.block 0 (.loop LK))
def zpW : AC := (.seq (.seq (.reg [] [jv 7 (.mov (jn 0))] []) zoI) zbF)
def A52 : AC := (.seq (.reg [.clr [3]] [jx 3 (.box (.t 0)), jv 6 (.mov kf)] []) zpW)
def zrM : List An := [⟨0, [.clr [3]], [], [], []⟩, ⟨4, [.clr [8]], [], [], []⟩]
theorem c52 : cC Try.prog Try.f52.ntmps zrM (Try.f52.body.getD .skip) = some A52 := by kernel_rfl
structure H52 (D : Den) (σ : Sig) (F : Nat) : Prop where
 mk ::
abbrev R52 (r : Bool) : (Nat → V) → Prop := RR Try.prog [.tmp 6] 0 false (Enc.enc (r : Bool))
section
variable {D : Den} {σ : Sig} {F : Nat} {r : Bool}
def wV (F : Nat) (x_2 : Int) (x_3 : Int) (x_1 : GR) (x_6 : Int) (c1 : Int → Option Bool) (x_10 : Bool) : Option Bool :=
 bif x_10 then
  some true
 else
  c1 (w64 (x_6 + 1))
theorem Wu (H : H52 D σ F) (x_2 : Int) (x_3 : Int) (x_1 : GR) (x_6 : Int) (c1 : Int → Option Bool) (Hc1 : ∀ (x_6 : Int) (s : Nat → V), zl [(1, ji x_2), (2, ji x_3), (3, bG 3 x_1), (6, jb false), (7, ji x_6)] s → c1 x_6 = some r → Run D σ (R52 r) (.run LK [.lp LK, .bk 0, .sq zbF]) s) (x_10 : Bool) (s : Nat → V) (hs : zl [(1, ji x_2), (2, ji x_3), (3, bG 3 x_1), (6, jb false), (7, ji x_6), (42, jb x_10)] s) (h : wV F x_2 x_3 x_1 x_6 c1 x_10 = some r) : Run D σ (R52 r) (.nrm [.sq ziI, .bk 1, .sq ziS, .lp LK, .bk 0, .sq zbF]) s := by
 unfold wV at h
 obtain ⟨h1, h2, h3, h6, h7, h42⟩ := hs
 refine .nsq (zi (t := x_10) h42 h (fun h => ?_) (fun h => ?_))
 · refine .seq (rg (g0 (jb true) fun h6 => gq (.nsq (.ret ?_))))
   have hr := Option.some.inj h
   subst hr
   exact rrA (zf h6) rfl
 refine .skip (.nbk (.nsq (rg (gm h7 fun h14 => g1 14 (ji (w64 (x_6 + 1))) h14 fun h15 => gm h15 fun h7 => gq (.nlp ?_)))))
 exact Hc1 (w64 (x_6 + 1)) _ ⟨h1, h2, h3, h6, h7⟩ h
def yL (F : Nat) (x_2 : Int) (x_3 : Int) (x_1 : GR)  : Nat → Int → Option Bool
 | 0, _ => none
 | k + 1, x_6 =>
   bif decide (x_6 < (x_1.2.length : Int)) then
    (idx x_1.2 x_6).bind fun e_9 =>
    bif (e_9.1 == x_2) then
     bif (e_9.2 == x_3) then
      wV F x_2 x_3 x_1 x_6 (yL F x_2 x_3 x_1 k) true
     else
      bif (e_9.1 == x_3) then
       wV F x_2 x_3 x_1 x_6 (yL F x_2 x_3 x_1 k) (e_9.2 == x_2)
      else
       wV F x_2 x_3 x_1 x_6 (yL F x_2 x_3 x_1 k) false
    else
     bif (e_9.1 == x_3) then
      wV F x_2 x_3 x_1 x_6 (yL F x_2 x_3 x_1 k) (e_9.2 == x_2)
     else
      wV F x_2 x_3 x_1 x_6 (yL F x_2 x_3 x_1 k) false
   else
    some false
theorem zeM (H : H52 D σ F) (x_2 : Int) (x_3 : Int) (x_1 : GR)  : ∀ (k : Nat) (x_6 : Int) (s : Nat → V), zl [(1, ji x_2), (2, ji x_3), (3, bG 3 x_1), (6, jb false), (7, ji x_6)] s → yL F x_2 x_3 x_1 k x_6 = some r → Run D σ (R52 r) (.run LK [.lp LK, .bk 0, .sq zbF]) s := by
 intro k
 induction k with
 | zero => intro x_6 s _ h; exact nm h
 | succ k ih =>
   intro x_6 s hs h
   rw [yL] at h
   obtain ⟨h1, h2, h3, h6, h7⟩ := hs
   refine .seq (.seq (rg (gm h7 fun h9 => g1 3 (.ref (.bx 3) 0 [1] (eP x_1.2)) h3 fun h10 => g1 10 (eP x_1.2) h10 fun h11 => gv (ji (x_1.2.length : Int)) (yo (xs := x_1.2) h11) fun h12 => g2 9 12 (jb (decide (x_6 < (x_1.2.length : Int)))) h9 h12 fun h13 => gq (.nsq (zi (t := decide (x_6 < (x_1.2.length : Int))) h13 h (fun h => ?_) (fun h => ?_))))))
   · refine .skip (.nsq (.seq (.block (.seq (zt (zR ?_))))))
     refine ez [(1, _), (2, _), (3, _), (6, _), (7, _), (8, _)] ⟨za h1 rfl mi, za h2 rfl mi, za h3 rfl (zh rfl mIE), za h6 rfl mb, za h7 rfl mi, zb rfl⟩ ?_
     rintro s ⟨h1, h2, h3, h6, h7, h8⟩
     refine g1 3 (.ref (.bx 3) 0 [1] (eP x_1.2)) h3 fun h16 => g1 16 (eP x_1.2) h16 fun h17 => gm h7 fun h18 => ?_
     obtain ⟨e_9, E_e_9, h⟩ := bind_some h
     refine gv (.ref .sh 0 [] (.agg [ji e_9.1, ji e_9.2])) (yu (t := .sh) (lo := 0) (xs := x_1.2) h17 h18 E_e_9 rfl rfl) fun h19 => g1 19 (.agg [ji e_9.1, ji e_9.2]) h19 fun h20 => xp h8 (z7 (.agg [ji e_9.1, ji e_9.2]) (zy rfl rfl) (zy h20 rfl) (xR (by first | rfl | simp [V.toks, V.tokss, Enc.toks_enc, z4])) (gz [(1, ji x_2), (2, ji x_3), (3, bG 3 x_1), (6, jb false), (7, ji x_6), (8, .ref (.bx 8) 0 [] (.agg [ji e_9.1, ji e_9.2]))] ⟨zc h1 rfl, zc h2 rfl, zc h3 (zD rfl rfl uIE), zc h6 rfl, zc h7 rfl, zc rfl rfl⟩ ?_))
     rintro s ⟨h1, h2, h3, h6, h7, h8⟩
     refine .nsq (.seq (rg (g1 8 (.ref (.bx 8) 0 [0] (ji e_9.1)) h8 fun h21 => g1 21 (ji e_9.1) h21 fun h22 => gm h1 fun h23 => g2 22 23 (jb (e_9.1 == x_2)) h22 h23 fun h24 => gm h24 fun h25 => zP (c := (e_9.1 == x_2)) h (fun hg5 h => ?_) (fun hg5 h => ?_))))
     · refine zg (ct h25 hg5) (g1 8 (.ref (.bx 8) 0 [1] (ji e_9.2)) h8 fun h26 => zg (ct h25 hg5) (g1 26 (ji e_9.2) h26 fun h27 => zg (ct h25 hg5) (gm h2 fun h28 => zg (ct h25 hg5) (g2 27 28 (jb (e_9.2 == x_3)) h27 h28 fun h29 => g2 25 29 (jb (e_9.2 == x_3)) (ct h25 hg5) h29 fun h30 => gm h30 fun h31 => zP (c := (e_9.2 == x_3)) h (fun hg11 h => ?_) (fun hg11 h => ?_)))))
       · iterate 5 refine ym (ct h31 hg11) ?_
         iterate 4 refine Z0 rfl ?_
         refine ym (ct h31 hg11) (g2 31 41 (jb true) (ct h31 hg11) (rf (.tup [])) fun h42 => gq ?_)
         exact Wu H x_2 x_3 x_1 x_6 (yL F x_2 x_3 x_1 k) ih true _ ⟨h1, h2, h3, h6, h7, h42⟩ h
       refine zg (ct h31 hg11) (g1 8 (.ref (.bx 8) 0 [0] (ji e_9.1)) h8 fun h32 => zg (ct h31 hg11) (g1 32 (ji e_9.1) h32 fun h33 => zg (ct h31 hg11) (gm h2 fun h34 => zg (ct h31 hg11) (g2 33 34 (jb (e_9.1 == x_3)) h33 h34 fun h35 => zg (ct h31 hg11) (gm h35 fun h36 => zP (c := (e_9.1 == x_3)) h (fun hg16 h => ?_) (fun hg16 h => ?_))))))
       · refine zg (ct h36 hg16) (g1 8 (.ref (.bx 8) 0 [1] (ji e_9.2)) h8 fun h37 => zg (ct h36 hg16) (g1 37 (ji e_9.2) h37 fun h38 => zg (ct h36 hg16) (gm h1 fun h39 => zg (ct h36 hg16) (g2 38 39 (jb (e_9.2 == x_2)) h38 h39 fun h40 => zg (ct h31 hg11) (g2 36 40 (jb (e_9.2 == x_2)) (ct h36 hg16) h40 fun h41 => g2 31 41 (jb (e_9.2 == x_2)) (ct h31 hg11) h41 fun h42 => gq ?_)))))
         exact Wu H x_2 x_3 x_1 x_6 (yL F x_2 x_3 x_1 k) ih (e_9.2 == x_2) _ ⟨h1, h2, h3, h6, h7, h42⟩ h
       iterate 4 refine ym (ct h36 hg16) ?_
       refine zg (ct h31 hg11) (g2 36 40 (jb false) (ct h36 hg16) (rf (.tup [])) fun h41 => g2 31 41 (jb false) (ct h31 hg11) h41 fun h42 => gq ?_)
       exact Wu H x_2 x_3 x_1 x_6 (yL F x_2 x_3 x_1 k) ih false _ ⟨h1, h2, h3, h6, h7, h42⟩ h
     iterate 4 refine ym (ct h25 hg5) ?_
     refine g2 25 29 (jb false) (ct h25 hg5) (rf (.tup [])) fun h30 => gm h30 fun h31 => zg h31 (g1 8 (.ref (.bx 8) 0 [0] (ji e_9.1)) h8 fun h32 => zg h31 (g1 32 (ji e_9.1) h32 fun h33 => zg h31 (gm h2 fun h34 => zg h31 (g2 33 34 (jb (e_9.1 == x_3)) h33 h34 fun h35 => zg h31 (gm h35 fun h36 => zP (c := (e_9.1 == x_3)) h (fun hg16 h => ?_) (fun hg16 h => ?_))))))
     · refine zg (ct h36 hg16) (g1 8 (.ref (.bx 8) 0 [1] (ji e_9.2)) h8 fun h37 => zg (ct h36 hg16) (g1 37 (ji e_9.2) h37 fun h38 => zg (ct h36 hg16) (gm h1 fun h39 => zg (ct h36 hg16) (g2 38 39 (jb (e_9.2 == x_2)) h38 h39 fun h40 => zg h31 (g2 36 40 (jb (e_9.2 == x_2)) (ct h36 hg16) h40 fun h41 => g2 31 41 (jb (e_9.2 == x_2)) h31 h41 fun h42 => gq ?_)))))
       exact Wu H x_2 x_3 x_1 x_6 (yL F x_2 x_3 x_1 k) ih (e_9.2 == x_2) _ ⟨h1, h2, h3, h6, h7, h42⟩ h
     iterate 4 refine ym (ct h36 hg16) ?_
     refine zg h31 (g2 36 40 (jb false) (ct h36 hg16) (rf (.tup [])) fun h41 => g2 31 41 (jb false) h31 h41 fun h42 => gq ?_)
     exact Wu H x_2 x_3 x_1 x_6 (yL F x_2 x_3 x_1 k) ih false _ ⟨h1, h2, h3, h6, h7, h42⟩ h
   refine .exit (.esq (.elp (.ebk (.nsq (.seq (rg (g0 (jb false) fun h6 => gq (.nsq (.ret ?_)))))))))
   have hr := Option.some.inj h
   subst hr
   exact rrA (zf h6) rfl
def u7 (F : Nat) (x_1 : GR) (x_2 : Int) (x_3 : Int) : Option Bool :=
 yL F x_2 x_3 x_1 F 0
theorem t52 (H : H52 D σ F) (x_1 : GR) (x_2 : Int) (x_3 : Int) (s : Nat → V) (hs : zl [(0, gV x_1), (1, ji x_2), (2, ji x_3)] s) (h : u7 F x_1 x_2 x_3 = some r) : Run D σ (R52 r) (.run A52 []) s := by
 unfold u7 at h
 obtain ⟨h0, h1, h2⟩ := hs
 refine .seq (zt (zR ?_))
 refine ez [(0, _), (1, _), (2, _), (3, _)] ⟨za h0 rfl mIE, za h1 rfl mi, za h2 rfl mi, zb rfl⟩ ?_
 rintro s ⟨h0, h1, h2, h3⟩
 refine xB (gV x_1) (zy h0 rfl) h3 rfl (g0 (jb false) fun h6 => gq (.nsq (.seq (.seq (rg (g0 (ji 0) fun h7 => gq (.nsq (.block (.loop ?_)))))))))
 exact zeM H x_2 x_3 x_1 F 0 _ ⟨h1, h2, rfl, h6, h7⟩ h
end
def e52 (F : Nat) : Ent := ent 52 (fun (x : (GR × Int × Int × Unit)) => u7 F x.1 x.2.1 x.2.2.1) (fun (r : Bool) => (Enc.enc (r : Bool))) 0 false []
abbrev C52 (D : List V → Option V) (F : Nat) : Prop := ∀ (x0 : GR) (x1 : Int) (x2 : Int) r, u7 F x0 x1 x2 = some r → D [Enc.enc x0, Enc.enc x1, Enc.enc x2] = some (Enc.enc (r : Bool))
theorem p52 {F : Nat} : C52 (e52 F).den F := fun x0 x1 x2 _ h => zJ (x0, x1, x2, ()) h
theorem o52 {D : Den} {σ : Sig} {F : Nat} (hF : zu Try.prog D σ) (H : H52 D σ F) : (e52 F).Ok Try.prog := by
 refine yd (f := 52) (show unk 52 = 52 from rfl) (fun args r h => ?_) ⟨Try.f52, Try.func52, rfl, rfl⟩
 obtain ⟨⟨x0, x1, x2, _⟩, y, rfl, hy, rfl⟩ := zH h
 exact zk hF (by kernel_rfl) Try.func52 rfl c52 (show 3 ≤ Try.f52.ntmps by decide) (t52 H x0 x1 x2 _ ⟨rfl, rfl, rfl⟩ hy)
def zkT : AC := (.cond (.t 31) (.reg [.clr [43, 44]] [jx 32 (.vN (.fld (.t 3) 1 1) [0]), jx 33 (.vN (.load .p (.t 32)) [0]), jx 34 (.vN (.fld (.t 3) 1 1) [0]), jx 35 (.vN (.load .p (.t 34)) [0]), jm 36 0, jx 37 (.vN (.fld (.t 3) 1 1) [0]), jx 38 (.vN (.load .p (.t 37)) [0]), jx 39 (.vN (.len (.t 38)) [0]), jx 40 (.callT (jf 65) [.t 36, .t 39] [0] []), jv 41 (.idx (.t 35) (.t 40) 2), jv 42 (.load (.ag [.s, .s]) (.t 41)), jx 43 (.lit (.agg [i0, i0]) 1 [(0, 0, .t 42)]), jx 44 (.app (.ag [.s, .s]) (.t 33) (.t 43)), jv 45 (.fld (.t 3) 1 1), jz (.store .p (.t 45) (.t 44))] [.drp 2061, .home 44 2061]) .skip)
def znS : AC := (.cond (.t 26) (.seq (.reg [] [jv 28 (.fld (.t 3) 1 1), jv 29 (.load .p (.t 28)), jv 30 (.len (.t 29)), jv 31 (.bin .gtr (.t 30) (jn 0))] []) zkT) .skip)
def zol : AC := (.cond (.t 13) (.reg [.clr [23, 24]] [jx 15 (.vN (.fld (.t 3) 1 1) [0]), jx 16 (.vN (.load .p (.t 15)) [0]), jm 17 0, jx 18 (.callT (jf 65) [.t 17, jn 4] [0] []), jm 19 0, jx 20 (.callT (jf 65) [.t 19, jn 9] [0] []), jv 21 (.bin .sub (.t 20) (jn 1)), jv 22 (.bld (.agg [i0, i0]) [(0, 0, .t 18), (1, 1, .t 21)]), jx 23 (.lit (.agg [i0, i0]) 1 [(0, 0, .t 22)]), jx 24 (.app (.ag [.s, .s]) (.t 16) (.t 23)), jv 25 (.fld (.t 3) 1 1), jz (.store .p (.t 25) (.t 24))] [.drp 2061, .home 24 2061]) (.seq (.reg [] [jv 27 (.bin .eql (.t 6) (jn 2)), jm 26 27] []) znS))
def zma : AC := (.cond (.t 7) (.reg [.clr [10]] [jm 9 0, jx 10 (.litS i0 5 [(0, 0, jn (-1)), (1, 1, jn 8), (2, 2, jn 9), (3, 3, jn 0), (4, 4, jn 4611686018427387904)]), jx 11 (.callT (jf 67) [.t 9, .t 10] [0] []), jv 12 (.fld (.t 3) 0 0), jz (.store .s (.t 12) (.t 11))] []) (.seq (.reg [] [jv 14 (.bin .eql (.t 6) (jn 1)), jm 13 14] []) zol))
def zk9 : AC := (.block 0 (.seq (.reg [] [jv 8 (.bin .eql (.t 6) (jn 0)), jm 7 8] []) zma))
def zoO : AC := (.seq (.reg [] [jv 46 (.load (.ag [.s, .p]) (.t 3)), jz (.store (.ag [.s, .p]) (.t 4) (.t 46))] [.frz 46]) .ret)
def zoP : AC := (.seq (.seq (.reg [] [jm 5 0, jx 6 (.callT (jf 65) [.t 5, jn 50] [0] [])] []) zk9) zoO)
def A75 : AC := (.seq (.reg [.clr [3, 4]] [jx 3 (.box (.t 1)), jx 4 (.alloc (.agg [i0, .sl .nl (.ag [.s, .s]) 0 []]))] [.drp 2061, .home vu 2061]) zoP)
def zro : List An := [⟨0, [.clr [3, 4]], [], [], [.drp 2061, .home vu 2061]⟩, ⟨1, [], [], [2000000], []⟩, ⟨3, [.clr [10]], [], [3000000, 6001], []⟩, ⟨5, [.clr [23, 24]], [], [4000000, 1000000, 2000000, 6000000], [.drp 2061, .home 24 2061]⟩, ⟨8, [.clr [43, 44]], [], [9000000, 1000000, 2000000, 3000000, 4000000, 6000000, 7000000, 8000000], [.drp 2061, .home 44 2061]⟩, ⟨9, [], [], [], [.frz 46]⟩]
theorem c75 : cC Try.prog Try.f75.ntmps zro (Try.f75.body.getD .skip) = some A75 := by kernel_rfl
structure H75 (D : Den) (σ : Sig) (F : Nat) : Prop where
 c65 : C65 (D 65) F
 g65 : σ 65 = some (uf, false)
 c67 : C67 (D 67) F
 g67 : σ 67 = some (uf, false)
abbrev R75 (r : (GR × CU)) : (Nat → V) → Prop := RT Try.prog [.cell 4 26] (Enc.enc (r.1 : GR)) [cuV zA r.2]
section
variable {D : Den} {σ : Sig} {F : Nat} {r : (GR × CU)}
def wl (F : Nat) (x_1 : CC) (x_2 : (Oh (Int × Int))) : Option (GR × CU) :=
 (ye F (Cu.mk x_1.v) 50).bind fun r_3 =>
 bif (r_3.1 == 0) then
  (yJ F (Cu.mk r_3.2) [(-1), 8, 9, 0, 4611686018427387904]).bind fun r_4 =>
  some ((r_4.1, x_2.v), r_4.2)
 else
  bif (r_3.1 == 1) then
   (ye F (Cu.mk r_3.2) 4).bind fun r_5 =>
   (ye F (Cu.mk r_5.2) 9).bind fun r_6 =>
   (wM x_2.v [(r_5.1, w64 (r_6.1 - 1))]).bind fun ap_7 =>
   some ((x_2.a, ap_7), r_6.2)
  else
   bif (r_3.1 == 2) then
    bif decide ((x_2.v.length : Int) > 0) then
     (ye F (Cu.mk r_3.2) (x_2.v.length : Int)).bind fun r_8 =>
     (idx x_2.v r_8.1).bind fun e_9 =>
     (wM x_2.v [e_9]).bind fun ap_10 =>
     some ((x_2.a, ap_10), r_8.2)
    else
     some ((x_2.a, x_2.v), r_3.2)
   else
    some ((x_2.a, x_2.v), r_3.2)
theorem t75 (H : H75 D σ F) (x_1 : CC) (x_2 : (Oh (Int × Int))) (s : Nat → V) (hs : zl [(0, bC x_1.v), (1, .agg [ji x_2.a, zj (.at vu []) (.of (x_2.v : LP))])] s) (h : wl F x_1 x_2 = some r) : Run D σ (R75 r) (.run A75 []) s := by
 unfold wl at h
 obtain ⟨h0, h1⟩ := hs
 refine .seq (zt (zR ?_))
 refine ez [(0, _), (1, _), (3, _), (4, _)] ⟨za h0 rfl (zh rfl vz), za h1 rfl (zF (ze mi (ze (zm (r := vu) (p := []) rfl rfl) zn))), zb rfl, zb rfl⟩ ?_
 rintro s ⟨h0, h1, h3, h4⟩
 refine xB (.agg [ji x_2.a, zj (.at vu []) (.of (x_2.v : LP))]) (zy h1 rfl) h3 rfl (xp h4 (yE (X4 (x := 2061) (fun s_2 hx_2 hd_2 => yq (r := vu) (x := 2061) (v := _) (by exact hx_2) rfl (fun s_3 hg_3 => ?_)))))
 refine ez [(0, bC x_1.v), (3, .ref (.bx 3) 0 [] (.agg [ji x_2.a, zj (.at 2061 []) (.of (x_2.v : LP))])), (4, bZ 4)] ⟨hg_3 0 _ _ (show s_2 0 = (bC x_1.v) from (hd_2 0 (by decide)).trans h0) (zh rfl vz), hg_3 3 _ (.ref (.bx 3) 0 [] (.agg [ji x_2.a, zj (.at 2061 []) (.of (x_2.v : LP))])) (show s_2 3 = (.ref (.bx 3) 0 [] (.agg [ji x_2.a, zj (.at vu []) (.of (x_2.v : LP))])) from (hd_2 3 (by decide)).trans rfl) (zh rfl (zF (ze mi (ze (zm (r := vu) (p := []) rfl rfl) zn)))), hg_3 4 _ _ (show s_2 4 = (bZ 4) from (hd_2 4 (by decide)).trans rfl) (zh rfl (mIx rfl))⟩ ?_
 rintro s ⟨h0, h3, h4⟩
 refine .nsq (.seq (.seq (rg (gm h0 fun h5 => ?_))))
 obtain ⟨r_3, E_r_3, h⟩ := bind_some h
 refine vw (r := zA) (b := 0) (x := x_1.v) (x' := r_3.2) (vs := [Enc.enc (50 : Int)]) (res := Enc.enc (r_3.1 : Int)) h0 (by exact (zK (v := cuV zA x_1.v) h5 rfl (zK (v := Enc.enc (50 : Int)) rfl rfl yA))) (z9 te yn) fm1 (H.c65 _ _ _ E_r_3) H.g65 te rfl (fun s_4 hb_4 ha_4 => ?_)
 refine gz [(0, _), (3, .ref (.bx 3) 0 [] (.agg [ji x_2.a, zj (.at 2061 []) (.of (x_2.v : LP))])), (4, bZ 4), (6, ji r_3.1)] ⟨(show s_4 0 = (bC r_3.2) from hb_4 0 h0), (show s_4 3 = (.ref (.bx 3) 0 [] (.agg [ji x_2.a, zj (.at 2061 []) (.of (x_2.v : LP))])) from ha_4 3 _ _ h3 rfl (zh rfl (zF (ze mi (ze (zm (r := 2061) (p := []) rfl rfl) zn))))), (show s_4 4 = (bZ 4) from ha_4 4 _ _ h4 rfl (zh rfl (mIx rfl))), rfl⟩ ?_
 rintro s ⟨h0, h3, h4, h6⟩
 refine .nsq (.block (.seq (rg (g1 6 (jb (r_3.1 == 0)) h6 fun h8 => gm h8 fun h7 => gq (.nsq (zi (t := (r_3.1 == 0)) h7 h (fun h => ?_) (fun h => ?_)))))))
 · refine zt (zR ?_)
   refine ez [(0, _), (3, _), (4, _), (10, _)] ⟨za h0 rfl (zh rfl vz), za h3 rfl (zh rfl (zF (ze mi (ze (zm (r := 2061) (p := []) rfl rfl) zn)))), za h4 rfl (zh rfl (mIx rfl)), zb rfl⟩ ?_
   rintro s ⟨h0, h3, h4, h10⟩
   refine gm h0 fun h9 => NW [] ([(-1), 8, 9, 0, 4611686018427387904] : LI) trivial rfl rfl rfl h10 (fun s_6 hd_6 hl_6 => ?_)
   obtain ⟨r_4, E_r_4, h⟩ := bind_some h
   refine vw (r := zA) (b := 0) (x := r_3.2) (x' := r_4.2) (vs := [Enc.enc ([(-1), 8, 9, 0, 4611686018427387904] : LI)]) (res := Enc.enc (r_4.1 : Int)) (show s_6 0 = (bC r_3.2) from hl_6 0 _ _ (by decide) h0 (zS rfl YW rfl)) (by exact (zK (v := cuV zA r_3.2) (show s_6 9 = (bC r_3.2) from hl_6 9 _ _ (by decide) h9 (zS rfl YW rfl)) rfl (zK (v := Enc.enc ([(-1), 8, 9, 0, 4611686018427387904] : LI)) (show s_6 10 = (eL [(-1), 8, 9, 0, 4611686018427387904]) from hd_6) rfl yA))) (z9 te yn) fm1 (H.c67 _ _ _ E_r_4) H.g67 te rfl (fun s_7 hb_7 ha_7 => ?_)
   refine g1 3 (.ref (.bx 3) 0 [0] (ji x_2.a)) (show s_7 3 = (.ref (.bx 3) 0 [] (.agg [ji x_2.a, zj (.at 2061 []) (.of (x_2.v : LP))])) from ha_7 3 (.ref (.bx 3) 0 [] (.agg [ji x_2.a, zj (.at 2061 []) (.of (x_2.v : LP))])) _ (show s_6 3 = (.ref (.bx 3) 0 [] (.agg [ji x_2.a, zj (.at 2061 []) (.of (x_2.v : LP))])) from hl_6 3 _ _ (by decide) h3 (zS rfl (vU (yl rfl (yl (XB rfl rfl) rfl))) rfl)) rfl (zh rfl (zF (ze mi (ze (zm (r := 2061) (p := []) rfl rfl) zn))))) fun h12 => z7 (ji r_4.1) (zy h12 rfl) (zy rfl rfl) (xR (by first | rfl | simp [V.toks, V.tokss, Enc.toks_enc, z4])) ?_
   refine gz [(0, bC r_4.2), (3, .ref (.bx 3) 0 [] (.agg [ji r_4.1, zj (.at 2061 []) (.of (x_2.v : LP))])), (4, bZ 4)] ⟨zc (show s_7 0 = (bC r_4.2) from hb_7 0 (show s_6 0 = (bC r_3.2) from hl_6 0 _ _ (by decide) h0 (zS rfl YW rfl))) (zD rfl rfl Wx), zc (show s_7 3 = (.ref (.bx 3) 0 [] (.agg [ji x_2.a, zj (.at 2061 []) (.of (x_2.v : LP))])) from ha_7 3 (.ref (.bx 3) 0 [] (.agg [ji x_2.a, zj (.at 2061 []) (.of (x_2.v : LP))])) _ (show s_6 3 = (.ref (.bx 3) 0 [] (.agg [ji x_2.a, zj (.at 2061 []) (.of (x_2.v : LP))])) from hl_6 3 _ _ (by decide) h3 (zS rfl (vU (yl rfl (yl (XB rfl rfl) rfl))) rfl)) rfl (zh rfl (zF (ze mi (ze (zm (r := 2061) (p := []) rfl rfl) zn))))) rfl, zc (show s_7 4 = (bZ 4) from ha_7 4 (bZ 4) _ (show s_6 4 = (bZ 4) from hl_6 4 _ _ (by decide) h4 (zS rfl (vU (yl rfl (yl rfl rfl))) rfl)) rfl (zh rfl (mIx rfl))) (zD rfl rfl (yp (zq rfl (zq rfl rfl))))⟩ ?_
   rintro s ⟨h0, h3, h4⟩
   refine .nbk (.nsq (.seq (rg (g1 3 (.agg [ji r_4.1, zj (.at 2061 []) (.of (x_2.v : LP))]) h3 fun h46 => z7 (.agg [ji r_4.1, zj (.at 2061 []) (.of (x_2.v : LP))]) (zy h4 rfl) (zy h46 rfl) (xR (by first | rfl | simp [V.toks, V.tokss, Enc.toks_enc, z4])) (yE (X1 (x := 46) (v := .agg [ji r_4.1, zj (.at 2061 []) (.of (x_2.v : LP))]) [.at 2061 []] (by exact (zc h46 (yp (zq rfl (zq (wX rfl rfl) rfl))))) (by simp [V.toks, V.tokss, z5, Enc.toks_enc]) (fun s_8 hg_8 => ?_)))))))
   refine ez [(0, bC r_4.2), (4, .ref (.bx 4) 0 [] (.agg [ji r_4.1, eP x_2.v]))] ⟨hg_8 0 (bC r_4.2) (bC r_4.2) (zc h0 (zD rfl rfl Wx)) (zS rfl YW rfl), hg_8 4 (.ref (.bx 4) 0 [] (.agg [ji r_4.1, zj (.at 2061 []) (.of (x_2.v : LP))])) (.ref (.bx 4) 0 [] (.agg [ji r_4.1, eP x_2.v])) (zc h4 rfl) (zS rfl (vU (yl rfl (yl Zf rfl))) rfl)⟩ ?_
   rintro s ⟨h0, h4⟩
   refine .nsq (.ret ?_)
   have hr := Option.some.inj h
   subst hr
   exact rt1 (t := 0) (wI h4 (by kernel_rfl)) h0
 refine .seq (rg (g1 6 (jb (r_3.1 == 1)) h6 fun h14 => gm h14 fun h13 => gq (.nsq (zi (t := (r_3.1 == 1)) h13 h (fun h => ?_) (fun h => ?_)))))
 · refine zt (zR ?_)
   refine ez [(0, _), (3, _), (4, _), (23, _), (24, _)] ⟨za h0 rfl (zh rfl vz), za h3 rfl (zh rfl (zF (ze mi (ze (zm (r := 2061) (p := []) rfl rfl) zn)))), za h4 rfl (zh rfl (mIx rfl)), zb rfl, zb rfl⟩ ?_
   rintro s ⟨h0, h3, h4, h23, h24⟩
   refine Kr (r := zA) (b := 0) (x := r_3.2) (.ref (.bx 3) 0 [1] (zj (.at 2061 []) (.of (x_2.v : LP)))) h0 (ZI [(3, .ref (.bx 3) 0 [] (.agg [ji x_2.a, zj (.at 2061 []) (.of (x_2.v : LP))]))] h3 rfl rfl) [(3, .ref (.bx 3) 0 [] (.agg [ji x_2.a, zj (.at 2061 []) (.of (x_2.v : LP))]))] h3 rfl (by simp [V.toks, V.tokss, z5, Enc.toks_enc, zA, vu]) (by simp [V.toks, V.tokss, z5, Enc.toks_enc, zA, vu]) ?_
   refine Kr (r := zA) (b := 0) (x := r_3.2) (zj (.at 2061 []) (.of (x_2.v : LP))) h0 (ZI [(15, .ref (.bx 3) 0 [1] (zj (.at 2061 []) (.of (x_2.v : LP))))] rfl rfl rfl) [(15, .ref (.bx 3) 0 [1] (zj (.at 2061 []) (.of (x_2.v : LP))))] rfl rfl (by simp [V.toks, V.tokss, z5, Enc.toks_enc, zA, vu]) (by simp [V.toks, V.tokss, z5, Enc.toks_enc, zA, vu]) (gm h0 fun h17 => ?_)
   obtain ⟨r_5, E_r_5, h⟩ := bind_some h
   refine vw (r := zA) (b := 0) (x := r_3.2) (x' := r_5.2) (vs := [Enc.enc (4 : Int)]) (res := Enc.enc (r_5.1 : Int)) h0 (by exact (zK (v := cuV zA r_3.2) h17 rfl (zK (v := Enc.enc (4 : Int)) rfl rfl yA))) (z9 te yn) fm1 (H.c65 _ _ _ E_r_5) H.g65 te rfl (fun s_10 hb_10 ha_10 => gm (show s_10 0 = (bC r_5.2) from hb_10 0 h0) fun h19 => ?_)
   obtain ⟨r_6, E_r_6, h⟩ := bind_some h
   refine vw (r := zA) (b := 0) (x := r_5.2) (x' := r_6.2) (vs := [Enc.enc (9 : Int)]) (res := Enc.enc (r_6.1 : Int)) (show s_10 0 = (bC r_5.2) from hb_10 0 h0) (by exact (zK (v := cuV zA r_5.2) h19 rfl (zK (v := Enc.enc (9 : Int)) rfl rfl yA))) (z9 te yn) fm1 (H.c65 _ _ _ E_r_6) H.g65 te rfl (fun s_11 hb_11 ha_11 => g1 20 (ji (w64 (r_6.1 - 1))) (rf (ji r_6.1)) fun h21 => g2 18 21 (.agg [ji r_5.1, ji (w64 (r_6.1 - 1))]) (show s_11 18 = (ji r_5.1) from ha_11 18 (ji r_5.1) _ rfl rfl mi) h21 fun h22 => ?_)
   refine xf [(22, .agg [ji r_5.1, ji (w64 (r_6.1 - 1))])] [Enc.enc ((r_5.1, w64 (r_6.1 - 1)) : (Int × Int))] h22 rfl rfl (show s_11 23 = .gone from ha_11 23 .gone _ (show s_10 23 = .gone from ha_10 23 _ _ h23 rfl rfl) rfl rfl) ?_
   obtain ⟨ap_7, E_ap_7, h⟩ := bind_some h
   refine XZ (q := 2061) (p := []) (o := .of (x_2.v : LP)) (ys := ([(r_5.1, w64 (r_6.1 - 1))] : LP)) (t2 := .at 23 []) (lo2 := 0) (show s_11 16 = (zj (.at 2061 []) (.of (x_2.v : LP))) from ha_11 16 (zj (.at 2061 []) (.of (x_2.v : LP))) _ (show s_10 16 = (zj (.at 2061 []) (.of (x_2.v : LP))) from ha_10 16 (zj (.at 2061 []) (.of (x_2.v : LP))) _ rfl rfl (zm (r := 2061) (p := []) rfl rfl)) rfl (zm (r := 2061) (p := []) rfl rfl)) rfl rfl (show s_11 24 = .gone from ha_11 24 .gone _ (show s_10 24 = .gone from ha_10 24 _ _ h24 rfl rfl) rfl rfl) (ZV (o := .of (x_2.v : LP)) E_ap_7 trivial) (fun s_12 ha_12 => ?_)
   refine g1 3 (.ref (.bx 3) 0 [1] (kdO ((.of x_2.v) : NL (Int × Int)))) (show s_12 3 = (.ref (.bx 3) 0 [] (.agg [ji x_2.a, kdO ((.of x_2.v) : NL (Int × Int))])) from uN ha_12 (show s_11 3 = (.ref (.bx 3) 0 [] (.agg [ji x_2.a, zj (.at 2061 []) (.of (x_2.v : LP))])) from ha_11 3 (.ref (.bx 3) 0 [] (.agg [ji x_2.a, zj (.at 2061 []) (.of (x_2.v : LP))])) _ (show s_10 3 = (.ref (.bx 3) 0 [] (.agg [ji x_2.a, zj (.at 2061 []) (.of (x_2.v : LP))])) from ha_10 3 _ _ h3 rfl (zh rfl (zF (ze mi (ze (zm (r := 2061) (p := []) rfl rfl) zn))))) rfl (zh rfl (zF (ze mi (ze (zm (r := 2061) (p := []) rfl rfl) zn))))) (zh rfl (zF (ze mi (ze YN zn)))) (by intro h; first | (cases h; done) | (subst h; rfl))) fun h25 => ?_
   refine z7 (zj (.at 24 []) (.of (ap_7 : LP))) (zy h25 rfl) (zy rfl rfl) ⟨by decide, by decide, rfl, rfl, Kn, Yt rfl rfl⟩ (yE (X4 (x := 2061) (fun s_13 hx_13 hd_13 => yq (r := 24) (x := 2061) (v := _) (by exact hx_13) rfl (fun s_14 hg_14 => ?_))))
   refine ez [(0, bC r_6.2), (3, .ref (.bx 3) 0 [] (.agg [ji x_2.a, zj (.at 2061 []) (.of (ap_7 : LP))])), (4, bZ 4)] ⟨hg_14 0 _ _ (show s_13 0 = (bC r_6.2) from (hd_13 0 (by decide)).trans (zc (show s_12 0 = (bC r_6.2) from zU ha_12 (show s_11 0 = (bC r_6.2) from hb_11 0 (show s_10 0 = (bC r_5.2) from hb_10 0 h0)) (zh rfl vz)) (zD rfl rfl Wx))) (zh rfl vz), hg_14 3 _ (.ref (.bx 3) 0 [] (.agg [ji x_2.a, zj (.at 2061 []) (.of (ap_7 : LP))])) (show s_13 3 = (.ref (.bx 3) 0 [] (.agg [ji x_2.a, zj (.at 24 []) (.of (ap_7 : LP))])) from (hd_13 3 (by decide)).trans (zc (show s_12 3 = (.ref (.bx 3) 0 [] (.agg [ji x_2.a, kdO ((.of x_2.v) : NL (Int × Int))])) from uN ha_12 (show s_11 3 = (.ref (.bx 3) 0 [] (.agg [ji x_2.a, zj (.at 2061 []) (.of (x_2.v : LP))])) from ha_11 3 (.ref (.bx 3) 0 [] (.agg [ji x_2.a, zj (.at 2061 []) (.of (x_2.v : LP))])) _ (show s_10 3 = (.ref (.bx 3) 0 [] (.agg [ji x_2.a, zj (.at 2061 []) (.of (x_2.v : LP))])) from ha_10 3 _ _ h3 rfl (zh rfl (zF (ze mi (ze (zm (r := 2061) (p := []) rfl rfl) zn))))) rfl (zh rfl (zF (ze mi (ze (zm (r := 2061) (p := []) rfl rfl) zn))))) (zh rfl (zF (ze mi (ze YN zn)))) (by intro h; first | (cases h; done) | (subst h; rfl))) (XN (zq rfl (zq Kj rfl))))) (zh rfl (zF (ze mi (ze (zm (r := 24) (p := []) rfl rfl) zn)))), hg_14 4 _ _ (show s_13 4 = (bZ 4) from (hd_13 4 (by decide)).trans (zc (show s_12 4 = (bZ 4) from zU ha_12 (show s_11 4 = (bZ 4) from ha_11 4 (bZ 4) _ (show s_10 4 = (bZ 4) from ha_10 4 _ _ h4 rfl (zh rfl (mIx rfl))) rfl (zh rfl (mIx rfl))) (zh rfl (mIx rfl))) (zD rfl rfl (yp (zq rfl (zq rfl rfl)))))) (zh rfl (mIx rfl))⟩ ?_
   rintro s ⟨h0, h3, h4⟩
   refine .nbk (.nsq (.seq (rg (g1 3 (.agg [ji x_2.a, zj (.at 2061 []) (.of (ap_7 : LP))]) h3 fun h46 => z7 (.agg [ji x_2.a, zj (.at 2061 []) (.of (ap_7 : LP))]) (zy h4 rfl) (zy h46 rfl) (xR (by first | rfl | simp [V.toks, V.tokss, Enc.toks_enc, z4])) (yE (X1 (x := 46) (v := .agg [ji x_2.a, zj (.at 2061 []) (.of (ap_7 : LP))]) [.at 2061 []] (by exact (zc h46 (yp (zq rfl (zq (wX rfl rfl) rfl))))) (by simp [V.toks, V.tokss, z5, Enc.toks_enc]) (fun s_15 hg_15 => ?_)))))))
   refine ez [(0, bC r_6.2), (4, .ref (.bx 4) 0 [] (.agg [ji x_2.a, eP ap_7]))] ⟨hg_15 0 (bC r_6.2) (bC r_6.2) (zc h0 (zD rfl rfl Wx)) (zS rfl YW rfl), hg_15 4 (.ref (.bx 4) 0 [] (.agg [ji x_2.a, zj (.at 2061 []) (.of (ap_7 : LP))])) (.ref (.bx 4) 0 [] (.agg [ji x_2.a, eP ap_7])) (zc h4 rfl) (zS rfl (vU (yl rfl (yl Zf rfl))) rfl)⟩ ?_
   rintro s ⟨h0, h4⟩
   refine .nsq (.ret ?_)
   have hr := Option.some.inj h
   subst hr
   exact rt1 (t := 0) (wI h4 (by kernel_rfl)) h0
 refine .seq (rg (g1 6 (jb (r_3.1 == 2)) h6 fun h27 => gm h27 fun h26 => gq (.nsq (zi (t := (r_3.1 == 2)) h26 h (fun h => ?_) (fun h => ?_)))))
 · refine .seq (rg (g1 3 (.ref (.bx 3) 0 [1] (zj (.at 2061 []) (.of (x_2.v : LP)))) h3 fun h28 => g1 28 (zj (.at 2061 []) (.of (x_2.v : LP))) h28 fun h29 => gv (ji (x_2.v.length : Int)) (Kg (o := .of x_2.v) h29) fun h30 => g1 30 (jb (decide ((x_2.v.length : Int) > 0))) h30 fun h31 => gq (.nsq (zi (t := decide ((x_2.v.length : Int) > 0)) h31 h (fun h => ?_) (fun h => ?_)))))
   · refine zt (zR ?_)
     refine ez [(0, _), (3, _), (4, _), (43, _), (44, _)] ⟨za h0 rfl (zh rfl vz), za h3 rfl (zh rfl (zF (ze mi (ze (zm (r := 2061) (p := []) rfl rfl) zn)))), za h4 rfl (zh rfl (mIx rfl)), zb rfl, zb rfl⟩ ?_
     rintro s ⟨h0, h3, h4, h43, h44⟩
     refine Kr (r := zA) (b := 0) (x := r_3.2) (.ref (.bx 3) 0 [1] (zj (.at 2061 []) (.of (x_2.v : LP)))) h0 (ZI [(3, .ref (.bx 3) 0 [] (.agg [ji x_2.a, zj (.at 2061 []) (.of (x_2.v : LP))]))] h3 rfl rfl) [(3, .ref (.bx 3) 0 [] (.agg [ji x_2.a, zj (.at 2061 []) (.of (x_2.v : LP))]))] h3 rfl (by simp [V.toks, V.tokss, z5, Enc.toks_enc, zA, vu]) (by simp [V.toks, V.tokss, z5, Enc.toks_enc, zA, vu]) ?_
     refine Kr (r := zA) (b := 0) (x := r_3.2) (zj (.at 2061 []) (.of (x_2.v : LP))) h0 (ZI [(32, .ref (.bx 3) 0 [1] (zj (.at 2061 []) (.of (x_2.v : LP))))] rfl rfl rfl) [(32, .ref (.bx 3) 0 [1] (zj (.at 2061 []) (.of (x_2.v : LP))))] rfl rfl (by simp [V.toks, V.tokss, z5, Enc.toks_enc, zA, vu]) (by simp [V.toks, V.tokss, z5, Enc.toks_enc, zA, vu]) ?_
     refine Kr (r := zA) (b := 0) (x := r_3.2) (.ref (.bx 3) 0 [1] (zj (.at 2061 []) (.of (x_2.v : LP)))) h0 (ZI [(3, .ref (.bx 3) 0 [] (.agg [ji x_2.a, zj (.at 2061 []) (.of (x_2.v : LP))]))] h3 rfl rfl) [(3, .ref (.bx 3) 0 [] (.agg [ji x_2.a, zj (.at 2061 []) (.of (x_2.v : LP))]))] h3 rfl (by simp [V.toks, V.tokss, z5, Enc.toks_enc, zA, vu]) (by simp [V.toks, V.tokss, z5, Enc.toks_enc, zA, vu]) ?_
     refine Kr (r := zA) (b := 0) (x := r_3.2) (zj (.at 2061 []) (.of (x_2.v : LP))) h0 (ZI [(34, .ref (.bx 3) 0 [1] (zj (.at 2061 []) (.of (x_2.v : LP))))] rfl rfl rfl) [(34, .ref (.bx 3) 0 [1] (zj (.at 2061 []) (.of (x_2.v : LP))))] rfl rfl (by simp [V.toks, V.tokss, z5, Enc.toks_enc, zA, vu]) (by simp [V.toks, V.tokss, z5, Enc.toks_enc, zA, vu]) ?_
     refine gm h0 fun h36 => Kr (r := zA) (b := 0) (x := r_3.2) (.ref (.bx 3) 0 [1] (zj (.at 2061 []) (.of (x_2.v : LP)))) h0 (ZI [(3, .ref (.bx 3) 0 [] (.agg [ji x_2.a, zj (.at 2061 []) (.of (x_2.v : LP))]))] h3 rfl rfl) [(3, .ref (.bx 3) 0 [] (.agg [ji x_2.a, zj (.at 2061 []) (.of (x_2.v : LP))]))] h3 rfl (by simp [V.toks, V.tokss, z5, Enc.toks_enc, zA, vu]) (by simp [V.toks, V.tokss, z5, Enc.toks_enc, zA, vu]) ?_
     refine Kr (r := zA) (b := 0) (x := r_3.2) (zj (.at 2061 []) (.of (x_2.v : LP))) h0 (ZI [(37, .ref (.bx 3) 0 [1] (zj (.at 2061 []) (.of (x_2.v : LP))))] rfl rfl rfl) [(37, .ref (.bx 3) 0 [1] (zj (.at 2061 []) (.of (x_2.v : LP))))] rfl rfl (by simp [V.toks, V.tokss, z5, Enc.toks_enc, zA, vu]) (by simp [V.toks, V.tokss, z5, Enc.toks_enc, zA, vu]) (Kr (r := zA) (b := 0) (x := r_3.2) (ji (x_2.v.length : Int)) h0 (Kg (o := .of x_2.v) rfl) [(38, zj (.at 2061 []) (.of (x_2.v : LP)))] rfl rfl (by simp [V.toks, V.tokss, z5, Enc.toks_enc, zA, vu]) (by simp [V.toks, V.tokss, z5, Enc.toks_enc, zA, vu]) ?_)
     obtain ⟨r_8, E_r_8, h⟩ := bind_some h
     refine vw (r := zA) (b := 0) (x := r_3.2) (x' := r_8.2) (vs := [Enc.enc ((x_2.v.length : Int) : Int)]) (res := Enc.enc (r_8.1 : Int)) h0 (by exact (zK (v := cuV zA r_3.2) h36 rfl (zK (v := Enc.enc ((x_2.v.length : Int) : Int)) rfl rfl yA))) (z9 te yn) fm1 (H.c65 _ _ _ E_r_8) H.g65 te rfl (fun s_17 hb_17 ha_17 => ?_)
     obtain ⟨e_9, E_e_9, h⟩ := bind_some h
     refine gv (.ref (.at 2061 []) r_8.1.toNat [] (.agg [ji e_9.1, ji e_9.2])) (vo (o := .of x_2.v) (show s_17 35 = (zj (.at 2061 []) (.of (x_2.v : LP))) from ha_17 35 (zj (.at 2061 []) (.of (x_2.v : LP))) _ rfl rfl (zm (r := 2061) (p := []) rfl rfl)) rfl E_e_9 rfl) fun h41 => g1 41 (.agg [ji e_9.1, ji e_9.2]) h41 fun h42 => xf [(42, .agg [ji e_9.1, ji e_9.2])] [Enc.enc (e_9 : (Int × Int))] h42 rfl rfl (show s_17 43 = .gone from ha_17 43 _ _ h43 rfl rfl) ?_
     obtain ⟨ap_10, E_ap_10, h⟩ := bind_some h
     refine XZ (q := 2061) (p := []) (o := .of (x_2.v : LP)) (ys := ([e_9] : LP)) (t2 := .at 43 []) (lo2 := 0) (show s_17 33 = (zj (.at 2061 []) (.of (x_2.v : LP))) from ha_17 33 (zj (.at 2061 []) (.of (x_2.v : LP))) _ rfl rfl (zm (r := 2061) (p := []) rfl rfl)) rfl rfl (show s_17 44 = .gone from ha_17 44 _ _ h44 rfl rfl) (ZV (o := .of (x_2.v : LP)) E_ap_10 trivial) (fun s_18 ha_18 => ?_)
     refine g1 3 (.ref (.bx 3) 0 [1] (kdO ((.of x_2.v) : NL (Int × Int)))) (show s_18 3 = (.ref (.bx 3) 0 [] (.agg [ji x_2.a, kdO ((.of x_2.v) : NL (Int × Int))])) from uN ha_18 (show s_17 3 = (.ref (.bx 3) 0 [] (.agg [ji x_2.a, zj (.at 2061 []) (.of (x_2.v : LP))])) from ha_17 3 _ _ h3 rfl (zh rfl (zF (ze mi (ze (zm (r := 2061) (p := []) rfl rfl) zn))))) (zh rfl (zF (ze mi (ze YN zn)))) (by intro h; first | (cases h; done) | (subst h; rfl))) fun h45 => z7 (zj (.at 44 []) (.of (ap_10 : LP))) (zy h45 rfl) (zy rfl rfl) ⟨by decide, by decide, rfl, rfl, Kn, Yt rfl rfl⟩ (yE ?_)
     refine X4 (x := 2061) (fun s_19 hx_19 hd_19 => yq (r := 44) (x := 2061) (v := _) (by exact hx_19) rfl (fun s_20 hg_20 => ?_))
     refine ez [(0, bC r_8.2), (3, .ref (.bx 3) 0 [] (.agg [ji x_2.a, zj (.at 2061 []) (.of (ap_10 : LP))])), (4, bZ 4)] ⟨hg_20 0 _ _ (show s_19 0 = (bC r_8.2) from (hd_19 0 (by decide)).trans (zc (show s_18 0 = (bC r_8.2) from zU ha_18 (show s_17 0 = (bC r_8.2) from hb_17 0 h0) (zh rfl vz)) (zD rfl rfl Wx))) (zh rfl vz), hg_20 3 _ (.ref (.bx 3) 0 [] (.agg [ji x_2.a, zj (.at 2061 []) (.of (ap_10 : LP))])) (show s_19 3 = (.ref (.bx 3) 0 [] (.agg [ji x_2.a, zj (.at 44 []) (.of (ap_10 : LP))])) from (hd_19 3 (by decide)).trans (zc (show s_18 3 = (.ref (.bx 3) 0 [] (.agg [ji x_2.a, kdO ((.of x_2.v) : NL (Int × Int))])) from uN ha_18 (show s_17 3 = (.ref (.bx 3) 0 [] (.agg [ji x_2.a, zj (.at 2061 []) (.of (x_2.v : LP))])) from ha_17 3 _ _ h3 rfl (zh rfl (zF (ze mi (ze (zm (r := 2061) (p := []) rfl rfl) zn))))) (zh rfl (zF (ze mi (ze YN zn)))) (by intro h; first | (cases h; done) | (subst h; rfl))) (XN (zq rfl (zq Kj rfl))))) (zh rfl (zF (ze mi (ze (zm (r := 44) (p := []) rfl rfl) zn)))), hg_20 4 _ _ (show s_19 4 = (bZ 4) from (hd_19 4 (by decide)).trans (zc (show s_18 4 = (bZ 4) from zU ha_18 (show s_17 4 = (bZ 4) from ha_17 4 _ _ h4 rfl (zh rfl (mIx rfl))) (zh rfl (mIx rfl))) (zD rfl rfl (yp (zq rfl (zq rfl rfl)))))) (zh rfl (mIx rfl))⟩ ?_
     rintro s ⟨h0, h3, h4⟩
     refine .nbk (.nsq (.seq (rg (g1 3 (.agg [ji x_2.a, zj (.at 2061 []) (.of (ap_10 : LP))]) h3 fun h46 => z7 (.agg [ji x_2.a, zj (.at 2061 []) (.of (ap_10 : LP))]) (zy h4 rfl) (zy h46 rfl) (xR (by first | rfl | simp [V.toks, V.tokss, Enc.toks_enc, z4])) (yE (X1 (x := 46) (v := .agg [ji x_2.a, zj (.at 2061 []) (.of (ap_10 : LP))]) [.at 2061 []] (by exact (zc h46 (yp (zq rfl (zq (wX rfl rfl) rfl))))) (by simp [V.toks, V.tokss, z5, Enc.toks_enc]) (fun s_21 hg_21 => ?_)))))))
     refine ez [(0, bC r_8.2), (4, .ref (.bx 4) 0 [] (.agg [ji x_2.a, eP ap_10]))] ⟨hg_21 0 (bC r_8.2) (bC r_8.2) (zc h0 (zD rfl rfl Wx)) (zS rfl YW rfl), hg_21 4 (.ref (.bx 4) 0 [] (.agg [ji x_2.a, zj (.at 2061 []) (.of (ap_10 : LP))])) (.ref (.bx 4) 0 [] (.agg [ji x_2.a, eP ap_10])) (zc h4 rfl) (zS rfl (vU (yl rfl (yl Zf rfl))) rfl)⟩ ?_
     rintro s ⟨h0, h4⟩
     refine .nsq (.ret ?_)
     have hr := Option.some.inj h
     subst hr
     exact rt1 (t := 0) (wI h4 (by kernel_rfl)) h0
   refine .skip (.nbk (.nsq (.seq (rg (g1 3 (.agg [ji x_2.a, zj (.at 2061 []) (.of (x_2.v : LP))]) h3 fun h46 => z7 (.agg [ji x_2.a, zj (.at 2061 []) (.of (x_2.v : LP))]) (zy h4 rfl) (zy h46 rfl) (xR (by first | rfl | simp [V.toks, V.tokss, Enc.toks_enc, z4])) (yE (X1 (x := 46) (v := .agg [ji x_2.a, zj (.at 2061 []) (.of (x_2.v : LP))]) [.at 2061 []] (by exact (zc h46 (yp (zq rfl (zq (wX rfl rfl) rfl))))) (by simp [V.toks, V.tokss, z5, Enc.toks_enc]) (fun s_22 hg_22 => ?_))))))))
   refine ez [(0, bC r_3.2), (4, .ref (.bx 4) 0 [] (.agg [ji x_2.a, eP x_2.v]))] ⟨hg_22 0 (bC r_3.2) (bC r_3.2) (zc h0 (zD rfl rfl Wx)) (zS rfl YW rfl), hg_22 4 (.ref (.bx 4) 0 [] (.agg [ji x_2.a, zj (.at 2061 []) (.of (x_2.v : LP))])) (.ref (.bx 4) 0 [] (.agg [ji x_2.a, eP x_2.v])) (zc h4 rfl) (zS rfl (vU (yl rfl (yl Zf rfl))) rfl)⟩ ?_
   rintro s ⟨h0, h4⟩
   refine .nsq (.ret ?_)
   have hr := Option.some.inj h
   subst hr
   exact rt1 (t := 0) (wI h4 (by kernel_rfl)) h0
 refine .skip (.nbk (.nsq (.seq (rg (g1 3 (.agg [ji x_2.a, zj (.at 2061 []) (.of (x_2.v : LP))]) h3 fun h46 => z7 (.agg [ji x_2.a, zj (.at 2061 []) (.of (x_2.v : LP))]) (zy h4 rfl) (zy h46 rfl) (xR (by first | rfl | simp [V.toks, V.tokss, Enc.toks_enc, z4])) (yE (X1 (x := 46) (v := .agg [ji x_2.a, zj (.at 2061 []) (.of (x_2.v : LP))]) [.at 2061 []] (by exact (zc h46 (yp (zq rfl (zq (wX rfl rfl) rfl))))) (by simp [V.toks, V.tokss, z5, Enc.toks_enc]) (fun s_23 hg_23 => ?_))))))))
 refine ez [(0, bC r_3.2), (4, .ref (.bx 4) 0 [] (.agg [ji x_2.a, eP x_2.v]))] ⟨hg_23 0 (bC r_3.2) (bC r_3.2) (zc h0 (zD rfl rfl Wx)) (zS rfl YW rfl), hg_23 4 (.ref (.bx 4) 0 [] (.agg [ji x_2.a, zj (.at 2061 []) (.of (x_2.v : LP))])) (.ref (.bx 4) 0 [] (.agg [ji x_2.a, eP x_2.v])) (zc h4 rfl) (zS rfl (vU (yl rfl (yl Zf rfl))) rfl)⟩ ?_
 rintro s ⟨h0, h4⟩
 refine .nsq (.ret ?_)
 have hr := Option.some.inj h
 subst hr
 exact rt1 (t := 0) (wI h4 (by kernel_rfl)) h0
end
def e75 (F : Nat) : Ent := ent 75 (fun (x : (CC × (Oh (Int × Int)) × Unit)) => wl F x.1 x.2.1) (fun (r : (GR × CU)) => (.tup [Enc.enc (r.1 : GR), .tup [cuV zA r.2]])) uf false []
abbrev C75 (D : List V → Option V) (F : Nat) : Prop := ∀ (x0 : CC) (x1 : (Oh (Int × Int))) r, wl F x0 x1 = some r → D [Arg.arg x0, Arg.arg x1] = some (.tup [Enc.enc (r.1 : GR), .tup [cuV zA r.2]])
theorem p75 {F : Nat} : C75 (e75 F).den F := fun x0 x1 _ h => zJ (x0, x1, ()) h
theorem o75 {D : Den} {σ : Sig} {F : Nat} (hF : zu Try.prog D σ) (H : H75 D σ F) : (e75 F).Ok Try.prog := by
 refine yd (f := 75) (show unk 75 = 75 from rfl) (fun args r h => ?_) ⟨Try.f75, Try.func75, rfl, rfl⟩
 obtain ⟨⟨x0, x1, _⟩, y, rfl, hy, rfl⟩ := zH h
 exact x8 hF (by kernel_rfl) Try.func75 rfl c75 rfl (show 2 ≤ Try.f75.ntmps by decide) (by decide) (t75 H x0 x1 _ ⟨rfl, rfl⟩ hy)
def XT : AC := (.seq (.reg [] [jm 98 0, jv 99 (.load (.ag [.s, .p]) (.t 6)), jx 100 (.callT (jf 75) [.t 98, .t 99] [0] [99]), jz (.store (.ag [.s, .p]) (.t 4) (.t 100))] []) .ret)
def zmR : AC := (.cond (.t 39) .skip (.exit 1))
def znN : AC := (.cond (.t 46) .skip (.exit 3))
def zoB : AC := (.cond (.t 52) (.reg [.clr [58]] [jv 53 (.fld (.t 6) 1 1), jv 54 (.load .p (.t 53)), jm 55 9, jm 56 10, jv 57 (.bld (.agg [i0, i0]) [(0, 0, .t 55), (1, 1, .t 56)]), jx 58 (.callO (jf 74) [.t 54, .t 57]), jv 59 (.fld (.t 6) 1 1), jz (.store .p (.t 59) (.t 58))] [.drp 28, .home 58 28]) .skip)
def zfs : AC := (.reg [] [jm 47 10, jv 48 (.bin .add (.t 47) (jn 1)), jm 10 48] [])
def zlh : AC := (.seq (.block 4 (.seq (.reg [] [jm 49 0, jm 50 7, jx 51 (.callT (jf 65) [.t 49, .t 50] [0] []), jv 52 (.bin .eql (.t 51) (jn 0))] []) zoB)) zfs)
def Ml : AC := (.seq (.seq (.reg [] [jm 44 10, jm 45 5, jv 46 (.bin .lss (.t 44) (.t 45))] []) znN) zlh)
def zlH : AC := (.block 3 (.loop Ml))
def zgk : AC := (.cond (.t 76) (.reg [.clr [82]] [jv 77 (.fld (.t 6) 1 1), jv 78 (.load .p (.t 77)), jm 79 11, jm 80 9, jv 81 (.bld (.agg [i0, i0]) [(0, 0, .t 79), (1, 1, .t 80)]), jx 82 (.callO (jf 74) [.t 78, .t 81]), jv 83 (.fld (.t 6) 1 1), jz (.store .p (.t 83) (.t 82))] [.drp 28, .home 82 28]) .skip)
def zjP : AC := (.seq (.reg [] [jm 64 9, jv 65 (.bin .gtr (.t 64) (jn 0)), jm 66 65, jg 67 66 true (.mov (.t 8)), jg 68 66 true (.un .not (.t 67)), jv 69 (.pick (.t 66) (.t 68) kf), jm 70 69, jg 71 70 true (.load (.ag [.s, .p]) (.t 6)), jg 72 70 true (.mov (.t 9)), jg 73 70 true (.mov (.t 11)), .mk (some 74) (some (70, true)) false (.call (jf 52) [.t 71, .t 72, .t 73]), jg 75 70 true (.un .not (.t 74)), jv 76 (.pick (.t 70) (.t 75) kf)] []) zgk)
def MR : AC := (.seq (.reg [] [jm 60 0, jm 61 9, jx 62 (.call (jf 39) [.t 61, jn 1]), jx 63 (.callT (jf 65) [.t 60, .t 62] [0] []), jm 11 63] []) zjP)
def U7 : AC := (.reg [] [jm 40 9, jv 41 (.bin .add (.t 40) (jn 1)), jm 9 41] [])
def zo0 : AC := (.seq (.block 2 (.seq (.seq (.reg [] [jm 42 9, jv 43 (.bin .add (.t 42) (jn 1)), jm 10 43] []) zlH) MR)) U7)
def Z1 : AC := (.seq (.seq (.reg [] [jm 37 9, jm 38 5, jv 39 (.bin .lss (.t 37) (.t 38))] []) zmR) zo0)
def zjI : AC := (.cond (.t 91) (.reg [.clr [93]] [jm 92 5, jx 93 (.callO (jf 72) [.t 92]), jz (.store (.ag [.s, .p]) (.t 6) (.t 93))] [.drp 28, .ren 28 93 [1]]) .skip)
def zkd : AC := (.block 1 (.loop Z1))
def ziV : AC := (.seq (.reg [] [jv 9 (.mov (jn 0))] []) zkd)
def zji : AC := (.cond (.t 94) (.reg [.clr [97]] [jm 96 5, jx 97 (.callO (jf 73) [.t 96]), jz (.store (.ag [.s, .p]) (.t 6) (.t 97))] [.drp 28, .ren 28 97 [1]]) (.seq (.reg [.clr [33]] [jm 32 0, jx 33 (.litS i0 3 [(0, 0, jn 3), (1, 1, jn 4), (2, 2, jn 6)]), jx 34 (.callT (jf 67) [.t 32, .t 33] [0] []), jm 35 0, jx 36 (.callT (jf 66) [.t 35, jn 6] [0] []), jm 7 34, jm 8 36] []) ziV))
def zjG : AC := (.cond (.t 88) (.seq (.reg [] [jm 90 5, jv 91 (.bin .gtr (.t 90) (jn 2))] []) zjI) (.seq (.reg [] [jv 95 (.bin .eql (.t 31) (jn 2)), jm 94 95] []) zji))
def zkJ : AC := (.cond (.t 84) (.reg [.clr [87]] [jm 86 5, jx 87 (.callO (jf 71) [.t 86]), jz (.store (.ag [.s, .p]) (.t 6) (.t 87))] [.drp 28, .ren 28 87 [1]]) (.seq (.reg [] [jv 89 (.bin .eql (.t 31) (jn 1)), jm 88 89] []) zjG))
def zi9 : AC := (.block 0 (.seq (.reg [] [jv 85 (.bin .eql (.t 31) (jn 0)), jm 84 85] []) zkJ))
def zkk : AC := (.seq (.seq (.reg [] [jm 30 0, jx 31 (.callT (jf 65) [.t 30, jn 8] [0] [])] []) zi9) XT)
def zko : AC := (.seq (.reg [.clr [28, 6]] [jm 27 5, jx 28 (.lit (.agg [i0, i0]) 0 []), jv 29 (.bld (.agg [i0, .sl .nl (.ag [.s, .s]) 0 []]) [(0, 0, .t 27), (1, 1, .t 28)]), jx 6 (.alloc (.agg [i0, .sl .nl (.ag [.s, .s]) 0 []])), jz (.store (.ag [.s, .p]) (.t 6) (.t 29))] []) zkk)
def zbp : AC := (.seq (.reg [] [jm 24 5, jm 25 1, jx 26 (.call (jf 64) [.t 24, .t 25]), jm 5 26] []) zko)
def ze1 : AC := (.cond (.t 20) (.reg [] [jm 21 0, jx 22 (.callT (jf 65) [.t 21, jn 2] [0] []), jv 23 (.bin .add (jn 7) (.t 22)), jm 5 23] []) .skip)
def zjf : AC := (.seq (.seq (.reg [] [jm 15 1, jv 16 (.bin .gtr (.t 15) (jn 6)), jm 17 16, jg 18 17 true (.mov (.t 0)), .mk (some 19) (some (17, true)) false (.callT (jf 66) [.t 18, jn 4] [0] []), jv 20 (.pick (.t 17) (.t 19) kf)] []) ze1) zbp)
def zkp : AC := (.seq (.reg [.clr [13]] [jm 12 0, jx 13 (.litS i0 7 [(0, 0, jn 4), (1, 1, jn 5), (2, 2, jn 3), (3, 3, jn 6), (4, 4, jn 2), (5, 5, jn 1), (6, 6, jn 0)]), jx 14 (.callT (jf 67) [.t 12, .t 13] [0] []), jm 5 14] []) zjf)
def A63 : AC := (.seq (.reg [.clr [4]] [jx 4 (.alloc (.agg [i0, .sl .nl (.ag [.s, .s]) 0 []]))] []) zkp)
def zrb : List An := [⟨0, [.clr [4]], [], [], []⟩, ⟨1, [.clr [13]], [], [3000000, 6001], []⟩, ⟨2, [], [], [5000000], []⟩, ⟨3, [], [], [2000000], []⟩, ⟨5, [.clr [28, 6]], [], [], []⟩, ⟨6, [], [], [2000000], []⟩, ⟨7, [.clr [33]], [], [3000000, 6001, 5000000], []⟩, ⟨14, [], [], [3000000], []⟩, ⟨15, [.clr [58]], [], [1005], [.drp 28, .home 58 28]⟩, ⟨16, [], [], [4000000], []⟩, ⟨18, [.clr [82]], [], [1005], [.drp 28, .home 82 28]⟩, ⟨20, [.clr [87]], [], [1001], [.drp 28, .ren 28 87 [1]]⟩, ⟨23, [.clr [93]], [], [1001], [.drp 28, .ren 28 93 [1]]⟩, ⟨25, [.clr [97]], [], [1001], [.drp 28, .ren 28 97 [1]]⟩, ⟨26, [], [], [3000000, 3500099], []⟩]
theorem c63 : cC Try.prog Try.f63.ntmps zrb (Try.f63.body.getD .skip) = some A63 := by kernel_rfl
structure H63 (D : Den) (σ : Sig) (F : Nat) : Prop where
 c67 : C67 (D 67) F
 g67 : σ 67 = some (uf, false)
 c66 : C66 (D 66) F
 g66 : σ 66 = some (uf, false)
 c65 : C65 (D 65) F
 g65 : σ 65 = some (uf, false)
 c64 : C64 (D 64) F
 g64 : σ 64 = some (0, false)
 c71o : zjp (D 1000000071) F
 g71o : σ 1000000071 = some (1, false)
 c72o : zop (D 1000000072) F
 g72o : σ 1000000072 = some (1, false)
 c73o : zoj (D 1000000073) F
 g73o : σ 1000000073 = some (1, false)
 c74o : zjd (D 1000000074) F
 g74o : σ 1000000074 = some (1, false)
 c39 : C39 (D 39) F
 g39 : σ 39 = some (0, false)
 c52 : C52 (D 52) F
 g52 : σ 52 = some (0, false)
 c75 : C75 (D 75) F
 g75 : σ 75 = some (uf, false)
abbrev R63 (r : (GR × CU)) : (Nat → V) → Prop := RT Try.prog [.cell 4 26] (Enc.enc (r.1 : GR)) [cuV zA r.2]
section
variable {D : Den} {σ : Sig} {F : Nat} {r : (GR × CU)}
def yx (F : Nat)   (x_101 : LB) (x_102 : Int) (x_103 : Int) (x_104 : Int) (x_105 : (NL (Int × Int))) : Option (GR × CU) :=
 (zja x_105).bind fun li_107 =>
 (wl F (cu x_101 x_102 x_103) (Oh.mk x_104 li_107 : Oh (Int × Int))).bind fun r_106 =>
 some (r_106.1, r_106.2)
theorem Wf (H : H63 D σ F)   (x_101 : LB) (x_102 : Int) (x_103 : Int) (x_104 : Int) (x_105 : (NL (Int × Int))) (s : Nat → V) (hs : zl [(0, .ref (.bx zA) 0 [] (.agg [eB x_101, ji x_102, .int .u64 x_103])), (4, bZ 4), (6, .ref (.bx 6) 0 [] (.agg [ji x_104, zj (.at 28 []) (x_105 : NL (Int × Int))]))] s) (h : yx F   x_101 x_102 x_103 x_104 x_105 = some r) : Run D σ (R63 r) (.nrm [.bk 0, .sq XT]) s := by
 unfold yx at h
 obtain ⟨h0, h4, h6⟩ := hs
 refine .nbk (.nsq (.seq (rg (gm h0 fun h98 => gv (.agg [ji x_104, zj (.at 28 []) (x_105 : NL (Int × Int))]) (Xi (c := .agg [ji x_104, zj (.at 28 []) (x_105 : NL (Int × Int))]) h6 (by simp [V.shape, V.shapes, xr, W8, Sh.beq, Sh.beqs])) fun h99 => ?_))))
 obtain ⟨li_107, E_li_107, h⟩ := bind_some h
 obtain ⟨r_106, E_r_106, h⟩ := bind_some h
 refine zjb (r := zA) (b := 0) (e := 99) (q := 28) (ρ := []) (x := ((S3.mk x_101 x_102 (Kd.mk x_103 : Kd .u64)) : CU)) (x' := r_106.2) (n := x_104) (xs := (li_107 : LP)) (res := Enc.enc (r_106.1 : GR)) h0 (QH E_li_107 h99) (by exact (zK (v := cuV zA ((S3.mk x_101 x_102 (Kd.mk x_103 : Kd .u64)) : CU)) h98 rfl (zK (v := .agg [ji x_104, zj (.at 28 []) (.of (li_107 : LP))]) (QH E_li_107 h99) rfl yA))) (H.c75 _ _ _ E_r_106) H.g75 te rfl (fun s_106 hb_106 ha_106 => ?_)
 refine z7 (gV r_106.1) (zy (show s_106 4 = (bZ 4) from ha_106 4 _ _ h4 rfl (zh rfl (mIx rfl))) rfl) (zy rfl rfl) (xR (by first | rfl | simp [V.toks, V.tokss, Enc.toks_enc, z4])) (gz [(0, bC r_106.2), (4, bG 4 r_106.1)] ⟨zc (show s_106 0 = (bC r_106.2) from hb_106 0 h0) (zD rfl rfl Wx), zc (show s_106 4 = (bZ 4) from ha_106 4 _ _ h4 rfl (zh rfl (mIx rfl))) rfl⟩ ?_)
 rintro s ⟨h0, h4⟩
 refine .nsq (.ret ?_)
 have hr := Option.some.inj h
 subst hr
 exact rt1 (t := 0) (wI h4 (by kernel_rfl)) h0
def wB (F : Nat) (r_181 : (Int × CU)) (r_14 : Int) (r_111 : (Int × CU)) (r_112 : (Bool × CU)) (x_142 : Int) (x_176 : Int) (c5 : LB → Int → Int → (NL (Int × Int)) → Int → Option (GR × CU)) (c8 : LB → Int → Int → (NL (Int × Int)) → Int → Option (GR × CU)) (x_183 : (NL (Int × Int))) : Option (GR × CU) :=
 c8 r_181.2.a r_181.2.b r_181.2.c.v x_183 (w64 (x_176 + 1))
theorem QN (H : H63 D σ F) (r_181 : (Int × CU)) (r_14 : Int) (r_111 : (Int × CU)) (r_112 : (Bool × CU)) (x_142 : Int) (x_176 : Int) (c5 : LB → Int → Int → (NL (Int × Int)) → Int → Option (GR × CU)) (Hc5 : ∀ (x_138 : LB) (x_139 : Int) (x_140 : Int) (x_141 : (NL (Int × Int))) (x_142 : Int) (s : Nat → V), zl [(0, .ref (.bx zA) 0 [] (.agg [eB x_138, ji x_139, .int .u64 x_140])), (4, bZ 4), (5, ji r_14), (6, .ref (.bx 6) 0 [] (.agg [ji r_14, zj (.at 28 []) (x_141 : NL (Int × Int))])), (7, ji r_111.1), (8, jb r_112.1), (9, ji x_142)] s → c5 x_138 x_139 x_140 x_141 x_142 = some r → Run D σ (R63 r) (.run Z1 [.lp Z1, .bk 1, .bk 0, .sq XT]) s) (c8 : LB → Int → Int → (NL (Int × Int)) → Int → Option (GR × CU)) (Hc8 : ∀ (x_172 : LB) (x_173 : Int) (x_174 : Int) (x_175 : (NL (Int × Int))) (x_176 : Int) (s : Nat → V), zl [(0, .ref (.bx zA) 0 [] (.agg [eB x_172, ji x_173, .int .u64 x_174])), (4, bZ 4), (5, ji r_14), (6, .ref (.bx 6) 0 [] (.agg [ji r_14, zj (.at 28 []) (x_175 : NL (Int × Int))])), (7, ji r_111.1), (8, jb r_112.1), (9, ji x_142), (10, ji x_176)] s → c8 x_172 x_173 x_174 x_175 x_176 = some r → Run D σ (R63 r) (.run Ml [.lp Ml, .bk 3, .sq MR, .bk 2, .sq U7, .lp Z1, .bk 1, .bk 0, .sq XT]) s) (x_183 : (NL (Int × Int))) (s : Nat → V) (hs : zl [(0, bC r_181.2), (4, bZ 4), (5, ji r_14), (6, .ref (.bx 6) 0 [] (.agg [ji r_14, zj (.at 28 []) (x_183 : NL (Int × Int))])), (7, ji r_111.1), (8, jb r_112.1), (9, ji x_142), (10, ji x_176)] s) (h : wB F r_181 r_14 r_111 r_112 x_142 x_176 c5 c8 x_183 = some r) : Run D σ (R63 r) (.nrm [.bk 4, .sq zfs, .lp Ml, .bk 3, .sq MR, .bk 2, .sq U7, .lp Z1, .bk 1, .bk 0, .sq XT]) s := by
 unfold wB at h
 obtain ⟨h0, h4, h5, h6, h7, h8, h9, h10⟩ := hs
 refine .nbk (.nsq (rg (gm h10 fun h47 => g1 47 (ji (w64 (x_176 + 1))) h47 fun h48 => gm h48 fun h10 => gq (.nlp ?_))))
 exact Hc8 r_181.2.a r_181.2.b r_181.2.c.v x_183 (w64 (x_176 + 1)) _ ⟨h0, h4, h5, h6, h7, h8, h9, h10⟩ h
def ww (F : Nat) (r_186 : (Int × CU)) (r_14 : Int) (r_111 : (Int × CU)) (r_112 : (Bool × CU)) (x_142 : Int) (c5 : LB → Int → Int → (NL (Int × Int)) → Int → Option (GR × CU)) (x_190 : (NL (Int × Int))) : Option (GR × CU) :=
 c5 r_186.2.a r_186.2.b r_186.2.c.v x_190 (w64 (x_142 + 1))
theorem Q8 (H : H63 D σ F) (r_186 : (Int × CU)) (r_14 : Int) (r_111 : (Int × CU)) (r_112 : (Bool × CU)) (x_142 : Int) (c5 : LB → Int → Int → (NL (Int × Int)) → Int → Option (GR × CU)) (Hc5 : ∀ (x_138 : LB) (x_139 : Int) (x_140 : Int) (x_141 : (NL (Int × Int))) (x_142 : Int) (s : Nat → V), zl [(0, .ref (.bx zA) 0 [] (.agg [eB x_138, ji x_139, .int .u64 x_140])), (4, bZ 4), (5, ji r_14), (6, .ref (.bx 6) 0 [] (.agg [ji r_14, zj (.at 28 []) (x_141 : NL (Int × Int))])), (7, ji r_111.1), (8, jb r_112.1), (9, ji x_142)] s → c5 x_138 x_139 x_140 x_141 x_142 = some r → Run D σ (R63 r) (.run Z1 [.lp Z1, .bk 1, .bk 0, .sq XT]) s) (x_190 : (NL (Int × Int))) (s : Nat → V) (hs : zl [(0, bC r_186.2), (4, bZ 4), (5, ji r_14), (6, .ref (.bx 6) 0 [] (.agg [ji r_14, zj (.at 28 []) (x_190 : NL (Int × Int))])), (7, ji r_111.1), (8, jb r_112.1), (9, ji x_142)] s) (h : ww F r_186 r_14 r_111 r_112 x_142 c5 x_190 = some r) : Run D σ (R63 r) (.nrm [.bk 2, .sq U7, .lp Z1, .bk 1, .bk 0, .sq XT]) s := by
 unfold ww at h
 obtain ⟨h0, h4, h5, h6, h7, h8, h9⟩ := hs
 refine .nbk (.nsq (rg (gm h9 fun h40 => g1 40 (ji (w64 (x_142 + 1))) h40 fun h41 => gm h41 fun h9 => gq (.nlp ?_))))
 exact Hc5 r_186.2.a r_186.2.b r_186.2.c.v x_190 (w64 (x_142 + 1)) _ ⟨h0, h4, h5, h6, h7, h8, h9⟩ h
def yF (F : Nat) (r_186 : (Int × CU)) (r_14 : Int) (x_175 : (NL (Int × Int))) (r_111 : (Int × CU)) (r_112 : (Bool × CU)) (x_142 : Int) (c5 : LB → Int → Int → (NL (Int × Int)) → Int → Option (GR × CU)) (x_188 : Bool) : Option (GR × CU) :=
 bif x_188 then
  (v6 F x_175.list (r_186.1, x_142)).bind fun r_191 =>
  ww F r_186 r_14 r_111 r_112 x_142 c5 r_191
 else
  ww F r_186 r_14 r_111 r_112 x_142 c5 x_175
theorem KS (H : H63 D σ F) (r_186 : (Int × CU)) (r_14 : Int) (x_175 : (NL (Int × Int))) (r_111 : (Int × CU)) (r_112 : (Bool × CU)) (x_142 : Int) (c5 : LB → Int → Int → (NL (Int × Int)) → Int → Option (GR × CU)) (Hc5 : ∀ (x_138 : LB) (x_139 : Int) (x_140 : Int) (x_141 : (NL (Int × Int))) (x_142 : Int) (s : Nat → V), zl [(0, .ref (.bx zA) 0 [] (.agg [eB x_138, ji x_139, .int .u64 x_140])), (4, bZ 4), (5, ji r_14), (6, .ref (.bx 6) 0 [] (.agg [ji r_14, zj (.at 28 []) (x_141 : NL (Int × Int))])), (7, ji r_111.1), (8, jb r_112.1), (9, ji x_142)] s → c5 x_138 x_139 x_140 x_141 x_142 = some r → Run D σ (R63 r) (.run Z1 [.lp Z1, .bk 1, .bk 0, .sq XT]) s) (x_188 : Bool) (s : Nat → V) (hs : zl [(0, bC r_186.2), (4, bZ 4), (5, ji r_14), (6, .ref (.bx 6) 0 [] (.agg [ji r_14, zj (.at 28 []) (x_175 : NL (Int × Int))])), (7, ji r_111.1), (8, jb r_112.1), (9, ji x_142), (11, ji r_186.1), (76, jb x_188)] s) (h : yF F r_186 r_14 x_175 r_111 r_112 x_142 c5 x_188 = some r) : Run D σ (R63 r) (.nrm [.sq zgk, .bk 2, .sq U7, .lp Z1, .bk 1, .bk 0, .sq XT]) s := by
 unfold yF at h
 obtain ⟨h0, h4, h5, h6, h7, h8, h9, h11, h76⟩ := hs
 refine .nsq (zi (t := x_188) h76 h (fun h => ?_) (fun h => ?_))
 · refine zt (zR ?_)
   refine ez [(0, _), (4, _), (5, _), (6, _), (7, _), (8, _), (9, _), (11, _), (82, _)] ⟨za h0 rfl (zh rfl vz), za h4 rfl (zh rfl (mIx rfl)), za h5 rfl mi, za h6 rfl (zh rfl (zF (ze mi (ze (zm (r := 28) (p := []) rfl rfl) zn)))), za h7 rfl mi, za h8 rfl mb, za h9 rfl mi, za h11 rfl mi, zb rfl⟩ ?_
   rintro s ⟨h0, h4, h5, h6, h7, h8, h9, h11, h82⟩
   refine g1 6 (.ref (.bx 6) 0 [1] (zj (.at 28 []) (x_175 : NL (Int × Int)))) h6 fun h77 => gv (zj (.at 28 []) (x_175 : NL (Int × Int))) (Xi h77 KJ) fun h78 => gm h11 fun h79 => gm h9 fun h80 => g2 79 80 (.agg [ji r_186.1, ji x_142]) h79 h80 fun h81 => ?_
   obtain ⟨r_191, E_r_191, h⟩ := bind_some h
   refine YG (m := 1) (al := false) (r := zj .sh (r_191 : NL (Int × Int))) (v := zj (.at 82 []) (r_191 : NL (Int × Int))) (kk := 1000000074) [eP x_175.list, Enc.enc ((r_186.1, x_142) : (Int × Int))] (zd (v := zj (.at 28 []) (x_175 : NL (Int × Int))) h78 um (w3 (o := x_175)) (zd (v := .agg [ji r_186.1, ji x_142]) h81 rfl (Enc.erase_enc ((r_186.1, x_142) : (Int × Int))) zw)) (H.c74o _ _ _ E_r_191) H.g74o rfl vV Za um h82 (g1 6 (.ref (.bx 6) 0 [1] (zj (.at 28 []) (x_175 : NL (Int × Int)))) h6 fun h83 => ?_)
   refine z7 (zj (.at 82 []) (r_191 : NL (Int × Int))) (zy h83 rfl) (zy rfl um) ⟨by decide, by decide, Kp, Xt, Xt, Yt rfl rfl⟩ (yE (X4 (x := 28) (fun s_202 hx_202 hd_202 => yq (r := 82) (x := 28) (v := _) (by exact hx_202) rfl (fun s_203 hg_203 => ?_))))
   refine ez [(0, bC r_186.2), (4, bZ 4), (5, ji r_14), (6, .ref (.bx 6) 0 [] (.agg [ji r_14, zj (.at 28 []) (r_191 : NL (Int × Int))])), (7, ji r_111.1), (8, jb r_112.1), (9, ji x_142)] ⟨hg_203 0 _ _ (show s_202 0 = (bC r_186.2) from (hd_202 0 (by decide)).trans (zc h0 (zD rfl rfl Wx))) (zh rfl vz), hg_203 4 _ _ (show s_202 4 = (bZ 4) from (hd_202 4 (by decide)).trans (zc h4 (zD rfl rfl (yp (zq rfl (zq rfl rfl)))))) (zh rfl (mIx rfl)), hg_203 5 _ _ (show s_202 5 = (ji r_14) from (hd_202 5 (by decide)).trans (zc h5 rfl)) mi, hg_203 6 _ (.ref (.bx 6) 0 [] (.agg [ji r_14, zj (.at 28 []) (r_191 : NL (Int × Int))])) (show s_202 6 = (.ref (.bx 6) 0 [] (.agg [ji r_14, zj (.at 82 []) (r_191 : NL (Int × Int))])) from (hd_202 6 (by decide)).trans (zc h6 (XN (zq rfl (zq (wX rfl rfl) rfl))))) (zh rfl (zF (ze mi (ze (zm (r := 82) (p := []) rfl rfl) zn)))), hg_203 7 _ _ (show s_202 7 = (ji r_111.1) from (hd_202 7 (by decide)).trans (zc h7 rfl)) mi, hg_203 8 _ _ (show s_202 8 = (jb r_112.1) from (hd_202 8 (by decide)).trans (zc h8 rfl)) mb, hg_203 9 _ _ (show s_202 9 = (ji x_142) from (hd_202 9 (by decide)).trans (zc h9 rfl)) mi⟩ ?_
   rintro s ⟨h0, h4, h5, h6, h7, h8, h9⟩
   exact Q8 H r_186 r_14 r_111 r_112 x_142 c5 Hc5 r_191 _ ⟨h0, h4, h5, h6, h7, h8, h9⟩ h
 refine .skip ?_
 exact Q8 H r_186 r_14 r_111 r_112 x_142 c5 Hc5 x_175 _ ⟨h0, h4, h5, h6, h7, h8, h9⟩ h
def z8 (F : Nat) (r_14 : Int) (r_111 : (Int × CU)) (r_112 : (Bool × CU)) (x_142 : Int) (c5 : LB → Int → Int → (NL (Int × Int)) → Int → Option (GR × CU)) : Nat → LB → Int → Int → (NL (Int × Int)) → Int → Option (GR × CU)
 | 0, _, _, _, _, _ => none
 | k + 1, x_172, x_173, x_174, x_175, x_176 =>
   bif decide (x_176 < r_14) then
    (ye F (cu x_172 x_173 x_174) r_111.1).bind fun r_181 =>
    bif (r_181.1 == 0) then
     (v6 F x_175.list (x_142, x_176)).bind fun r_184 =>
     wB F r_181 r_14 r_111 r_112 x_142 x_176 c5 (z8 F r_14 r_111 r_112 x_142 c5 k) r_184
    else
     wB F r_181 r_14 r_111 r_112 x_142 x_176 c5 (z8 F r_14 r_111 r_112 x_142 c5 k) x_175
   else
    (uc F x_142 1).bind fun r_185 =>
    (ye F (cu x_172 x_173 x_174) r_185).bind fun r_186 =>
    bif decide (x_142 > 0) then
     bif (!r_112.1) then
      (u7 F (r_14, x_175.list) x_142 r_186.1).bind fun r_192 =>
      yF F r_186 r_14 x_175 r_111 r_112 x_142 c5 (!r_192)
     else
      yF F r_186 r_14 x_175 r_111 r_112 x_142 c5 false
    else
     yF F r_186 r_14 x_175 r_111 r_112 x_142 c5 false
theorem zgA (H : H63 D σ F) (r_14 : Int) (r_111 : (Int × CU)) (r_112 : (Bool × CU)) (x_142 : Int) (c5 : LB → Int → Int → (NL (Int × Int)) → Int → Option (GR × CU)) (Hc5 : ∀ (x_138 : LB) (x_139 : Int) (x_140 : Int) (x_141 : (NL (Int × Int))) (x_142 : Int) (s : Nat → V), zl [(0, .ref (.bx zA) 0 [] (.agg [eB x_138, ji x_139, .int .u64 x_140])), (4, bZ 4), (5, ji r_14), (6, .ref (.bx 6) 0 [] (.agg [ji r_14, zj (.at 28 []) (x_141 : NL (Int × Int))])), (7, ji r_111.1), (8, jb r_112.1), (9, ji x_142)] s → c5 x_138 x_139 x_140 x_141 x_142 = some r → Run D σ (R63 r) (.run Z1 [.lp Z1, .bk 1, .bk 0, .sq XT]) s) : ∀ (k : Nat) (x_172 : LB) (x_173 : Int) (x_174 : Int) (x_175 : (NL (Int × Int))) (x_176 : Int) (s : Nat → V), zl [(0, .ref (.bx zA) 0 [] (.agg [eB x_172, ji x_173, .int .u64 x_174])), (4, bZ 4), (5, ji r_14), (6, .ref (.bx 6) 0 [] (.agg [ji r_14, zj (.at 28 []) (x_175 : NL (Int × Int))])), (7, ji r_111.1), (8, jb r_112.1), (9, ji x_142), (10, ji x_176)] s → z8 F r_14 r_111 r_112 x_142 c5 k x_172 x_173 x_174 x_175 x_176 = some r → Run D σ (R63 r) (.run Ml [.lp Ml, .bk 3, .sq MR, .bk 2, .sq U7, .lp Z1, .bk 1, .bk 0, .sq XT]) s := by
 intro k
 induction k with
 | zero => intro x_172 x_173 x_174 x_175 x_176 s _ h; exact nm h
 | succ k ih =>
   intro x_172 x_173 x_174 x_175 x_176 s hs h
   rw [z8] at h
   obtain ⟨h0, h4, h5, h6, h7, h8, h9, h10⟩ := hs
   refine .seq (.seq (rg (gm h10 fun h44 => gm h5 fun h45 => g2 44 45 (jb (decide (x_176 < r_14))) h44 h45 fun h46 => gq (.nsq (zi (t := decide (x_176 < r_14)) h46 h (fun h => ?_) (fun h => ?_))))))
   · refine .skip (.nsq (.seq (.block (.seq (rg (gm h0 fun h49 => gm h7 fun h50 => ?_))))))
     obtain ⟨r_181, E_r_181, h⟩ := bind_some h
     refine vw (r := zA) (b := 0) (x := ((S3.mk x_172 x_173 (Kd.mk x_174 : Kd .u64)) : CU)) (x' := r_181.2) (vs := [Enc.enc (r_111.1 : Int)]) (res := Enc.enc (r_181.1 : Int)) h0 (by exact (zK (v := cuV zA ((S3.mk x_172 x_173 (Kd.mk x_174 : Kd .u64)) : CU)) h49 rfl (zK (v := Enc.enc (r_111.1 : Int)) h50 rfl yA))) (z9 te yn) fm1 (H.c65 _ _ _ E_r_181) H.g65 te rfl (fun s_190 hb_190 ha_190 => g1 51 (jb (r_181.1 == 0)) (rf (ji r_181.1)) fun h52 => ?_)
     refine gz [(0, _), (4, bZ 4), (5, ji r_14), (6, .ref (.bx 6) 0 [] (.agg [ji r_14, zj (.at 28 []) (x_175 : NL (Int × Int))])), (7, ji r_111.1), (8, jb r_112.1), (9, ji x_142), (10, ji x_176), (52, _)] ⟨(show s_190 0 = (bC r_181.2) from hb_190 0 h0), (show s_190 4 = (bZ 4) from ha_190 4 _ _ h4 rfl (zh rfl (mIx rfl))), (show s_190 5 = (ji r_14) from ha_190 5 _ _ h5 rfl mi), (show s_190 6 = (.ref (.bx 6) 0 [] (.agg [ji r_14, zj (.at 28 []) (x_175 : NL (Int × Int))])) from ha_190 6 _ _ h6 rfl (zh rfl (zF (ze mi (ze (zm (r := 28) (p := []) rfl rfl) zn))))), (show s_190 7 = (ji r_111.1) from ha_190 7 _ _ h7 rfl mi), (show s_190 8 = (jb r_112.1) from ha_190 8 _ _ h8 rfl mb), (show s_190 9 = (ji x_142) from ha_190 9 _ _ h9 rfl mi), (show s_190 10 = (ji x_176) from ha_190 10 _ _ h10 rfl mi), h52⟩ ?_
     rintro s ⟨h0, h4, h5, h6, h7, h8, h9, h10, h52⟩
     refine .nsq (zi (t := (r_181.1 == 0)) h52 h (fun h => ?_) (fun h => ?_))
     · refine zt (zR ?_)
       refine ez [(0, _), (4, _), (5, _), (6, _), (7, _), (8, _), (9, _), (10, _), (58, _)] ⟨za h0 rfl (zh rfl vz), za h4 rfl (zh rfl (mIx rfl)), za h5 rfl mi, za h6 rfl (zh rfl (zF (ze mi (ze (zm (r := 28) (p := []) rfl rfl) zn)))), za h7 rfl mi, za h8 rfl mb, za h9 rfl mi, za h10 rfl mi, zb rfl⟩ ?_
       rintro s ⟨h0, h4, h5, h6, h7, h8, h9, h10, h58⟩
       refine g1 6 (.ref (.bx 6) 0 [1] (zj (.at 28 []) (x_175 : NL (Int × Int)))) h6 fun h53 => gv (zj (.at 28 []) (x_175 : NL (Int × Int))) (Xi h53 KJ) fun h54 => gm h9 fun h55 => gm h10 fun h56 => g2 55 56 (.agg [ji x_142, ji x_176]) h55 h56 fun h57 => ?_
       obtain ⟨r_184, E_r_184, h⟩ := bind_some h
       refine YG (m := 1) (al := false) (r := zj .sh (r_184 : NL (Int × Int))) (v := zj (.at 58 []) (r_184 : NL (Int × Int))) (kk := 1000000074) [eP x_175.list, Enc.enc ((x_142, x_176) : (Int × Int))] (zd (v := zj (.at 28 []) (x_175 : NL (Int × Int))) h54 um (w3 (o := x_175)) (zd (v := .agg [ji x_142, ji x_176]) h57 rfl (Enc.erase_enc ((x_142, x_176) : (Int × Int))) zw)) (H.c74o _ _ _ E_r_184) H.g74o rfl vV Za um h58 (g1 6 (.ref (.bx 6) 0 [1] (zj (.at 28 []) (x_175 : NL (Int × Int)))) h6 fun h59 => ?_)
       refine z7 (zj (.at 58 []) (r_184 : NL (Int × Int))) (zy h59 rfl) (zy rfl um) ⟨by decide, by decide, Kp, Xt, Xt, Yt rfl rfl⟩ (yE (X4 (x := 28) (fun s_195 hx_195 hd_195 => yq (r := 58) (x := 28) (v := _) (by exact hx_195) rfl (fun s_196 hg_196 => ?_))))
       refine ez [(0, bC r_181.2), (4, bZ 4), (5, ji r_14), (6, .ref (.bx 6) 0 [] (.agg [ji r_14, zj (.at 28 []) (r_184 : NL (Int × Int))])), (7, ji r_111.1), (8, jb r_112.1), (9, ji x_142), (10, ji x_176)] ⟨hg_196 0 _ _ (show s_195 0 = (bC r_181.2) from (hd_195 0 (by decide)).trans (zc h0 (zD rfl rfl Wx))) (zh rfl vz), hg_196 4 _ _ (show s_195 4 = (bZ 4) from (hd_195 4 (by decide)).trans (zc h4 (zD rfl rfl (yp (zq rfl (zq rfl rfl)))))) (zh rfl (mIx rfl)), hg_196 5 _ _ (show s_195 5 = (ji r_14) from (hd_195 5 (by decide)).trans (zc h5 rfl)) mi, hg_196 6 _ (.ref (.bx 6) 0 [] (.agg [ji r_14, zj (.at 28 []) (r_184 : NL (Int × Int))])) (show s_195 6 = (.ref (.bx 6) 0 [] (.agg [ji r_14, zj (.at 58 []) (r_184 : NL (Int × Int))])) from (hd_195 6 (by decide)).trans (zc h6 (XN (zq rfl (zq (wX rfl rfl) rfl))))) (zh rfl (zF (ze mi (ze (zm (r := 58) (p := []) rfl rfl) zn)))), hg_196 7 _ _ (show s_195 7 = (ji r_111.1) from (hd_195 7 (by decide)).trans (zc h7 rfl)) mi, hg_196 8 _ _ (show s_195 8 = (jb r_112.1) from (hd_195 8 (by decide)).trans (zc h8 rfl)) mb, hg_196 9 _ _ (show s_195 9 = (ji x_142) from (hd_195 9 (by decide)).trans (zc h9 rfl)) mi, hg_196 10 _ _ (show s_195 10 = (ji x_176) from (hd_195 10 (by decide)).trans (zc h10 rfl)) mi⟩ ?_
       rintro s ⟨h0, h4, h5, h6, h7, h8, h9, h10⟩
       exact QN H r_181 r_14 r_111 r_112 x_142 x_176 c5 Hc5 (z8 F r_14 r_111 r_112 x_142 c5 k) ih r_184 _ ⟨h0, h4, h5, h6, h7, h8, h9, h10⟩ h
     refine .skip ?_
     exact QN H r_181 r_14 r_111 r_112 x_142 x_176 c5 Hc5 (z8 F r_14 r_111 r_112 x_142 c5 k) ih x_175 _ ⟨h0, h4, h5, h6, h7, h8, h9, h10⟩ h
   refine .exit (.esq (.elp (.ebk (.nsq (.seq (rg (gm h0 fun h60 => gm h9 fun h61 => ?_)))))))
   obtain ⟨r_185, E_r_185, h⟩ := bind_some h
   refine zB (m := 0) (al := false) (r := Enc.enc (r_185 : Int)) [Enc.enc (x_142 : Int), Enc.enc (1 : Int)] (zd (v := ji x_142) h61 rfl rfl (zd (v := ji 1) rfl rfl rfl zw)) (H.c39 _ _ _ E_r_185) H.g39 rfl rfl rfl rfl ?_
   obtain ⟨r_186, E_r_186, h⟩ := bind_some h
   refine vw (r := zA) (b := 0) (x := ((S3.mk x_172 x_173 (Kd.mk x_174 : Kd .u64)) : CU)) (x' := r_186.2) (vs := [Enc.enc (r_185 : Int)]) (res := Enc.enc (r_186.1 : Int)) h0 (by exact (zK (v := cuV zA ((S3.mk x_172 x_173 (Kd.mk x_174 : Kd .u64)) : CU)) h60 rfl (zK (v := Enc.enc (r_185 : Int)) rfl rfl yA))) (z9 te yn) fm1 (H.c65 _ _ _ E_r_186) H.g65 te rfl (fun s_197 hb_197 ha_197 => gm (rf (ji r_186.1)) fun h11 => ?_)
   refine gz [(0, _), (4, bZ 4), (5, ji r_14), (6, .ref (.bx 6) 0 [] (.agg [ji r_14, zj (.at 28 []) (x_175 : NL (Int × Int))])), (7, ji r_111.1), (8, jb r_112.1), (9, ji x_142), (11, _)] ⟨(show s_197 0 = (bC r_186.2) from hb_197 0 h0), (show s_197 4 = (bZ 4) from ha_197 4 _ _ h4 rfl (zh rfl (mIx rfl))), (show s_197 5 = (ji r_14) from ha_197 5 _ _ h5 rfl mi), (show s_197 6 = (.ref (.bx 6) 0 [] (.agg [ji r_14, zj (.at 28 []) (x_175 : NL (Int × Int))])) from ha_197 6 _ _ h6 rfl (zh rfl (zF (ze mi (ze (zm (r := 28) (p := []) rfl rfl) zn))))), (show s_197 7 = (ji r_111.1) from ha_197 7 _ _ h7 rfl mi), (show s_197 8 = (jb r_112.1) from ha_197 8 _ _ h8 rfl mb), (show s_197 9 = (ji x_142) from ha_197 9 _ _ h9 rfl mi), h11⟩ ?_
   rintro s ⟨h0, h4, h5, h6, h7, h8, h9, h11⟩
   refine .nsq (.seq (rg (gm h9 fun h64 => g1 64 (jb (decide (x_142 > 0))) h64 fun h65 => gm h65 fun h66 => zP (c := decide (x_142 > 0)) h (fun hg3 h => ?_) (fun hg3 h => ?_))))
   · refine zg (ct h66 hg3) (gm h8 fun h67 => zg (ct h66 hg3) (g1 67 (jb (!r_112.1)) h67 fun h68 => g2 66 68 (jb (!r_112.1)) (ct h66 hg3) h68 fun h69 => gm h69 fun h70 => zP (c := (!r_112.1)) h (fun hg7 h => ?_) (fun hg7 h => ?_)))
     · refine zg (ct h70 hg7) (gv (.agg [ji r_14, zj (.at 28 []) (x_175 : NL (Int × Int))]) (Xi (c := .agg [ji r_14, zj (.at 28 []) (x_175 : NL (Int × Int))]) h6 (by simp [V.shape, V.shapes, xr, W8, Sh.beq, Sh.beqs])) fun h71 => zg (ct h70 hg7) (gm h9 fun h72 => zg (ct h70 hg7) (gm h11 fun h73 => ?_)))
       obtain ⟨r_192, E_r_192, h⟩ := bind_some h
       refine zg (ct h70 hg7) (zB (m := 0) (al := false) (r := Enc.enc (r_192 : Bool)) [Enc.enc ((r_14, x_175.list) : GR), Enc.enc (x_142 : Int), Enc.enc (r_186.1 : Int)] (zd (v := .agg [ji r_14, zj (.at 28 []) (x_175 : NL (Int × Int))]) h71 rfl (zdP (vJ rfl (vJ (w3 (o := x_175)) wm))) (zd (v := ji x_142) h72 rfl rfl (zd (v := ji r_186.1) h73 rfl rfl zw))) (H.c52 _ _ _ _ E_r_192) H.g52 rfl rfl rfl rfl (zg (ct h70 hg7) (g1 74 (jb (!r_192)) (rf (jb r_192)) fun h75 => g2 70 75 (jb (!r_192)) (ct h70 hg7) h75 fun h76 => gq ?_)))
       exact KS H r_186 r_14 x_175 r_111 r_112 x_142 c5 Hc5 (!r_192) _ ⟨h0, h4, h5, h6, h7, h8, h9, h11, h76⟩ h
     iterate 5 refine ym (ct h70 hg7) ?_
     refine g2 70 75 (jb false) (ct h70 hg7) (rf (.tup [])) fun h76 => gq ?_
     exact KS H r_186 r_14 x_175 r_111 r_112 x_142 c5 Hc5 false _ ⟨h0, h4, h5, h6, h7, h8, h9, h11, h76⟩ h
   iterate 2 refine ym (ct h66 hg3) ?_
   refine g2 66 68 (jb false) (ct h66 hg3) (rf (.tup [])) fun h69 => gm h69 fun h70 => ym h70 ?_
   iterate 4 refine ym h70 ?_
   refine g2 70 75 (jb false) h70 (rf (.tup [])) fun h76 => gq ?_
   exact KS H r_186 r_14 x_175 r_111 r_112 x_142 c5 Hc5 false _ ⟨h0, h4, h5, h6, h7, h8, h9, h11, h76⟩ h
def yG (F : Nat) (r_14 : Int) (r_111 : (Int × CU)) (r_112 : (Bool × CU))  : Nat → LB → Int → Int → (NL (Int × Int)) → Int → Option (GR × CU)
 | 0, _, _, _, _, _ => none
 | k + 1, x_138, x_139, x_140, x_141, x_142 =>
   bif decide (x_142 < r_14) then
    z8 F r_14 r_111 r_112 x_142 (yG F r_14 r_111 r_112 k) F x_138 x_139 x_140 x_141 (w64 (x_142 + 1))
   else
    yx F x_138 x_139 x_140 r_14 x_141
theorem zfg (H : H63 D σ F) (r_14 : Int) (r_111 : (Int × CU)) (r_112 : (Bool × CU))  : ∀ (k : Nat) (x_138 : LB) (x_139 : Int) (x_140 : Int) (x_141 : (NL (Int × Int))) (x_142 : Int) (s : Nat → V), zl [(0, .ref (.bx zA) 0 [] (.agg [eB x_138, ji x_139, .int .u64 x_140])), (4, bZ 4), (5, ji r_14), (6, .ref (.bx 6) 0 [] (.agg [ji r_14, zj (.at 28 []) (x_141 : NL (Int × Int))])), (7, ji r_111.1), (8, jb r_112.1), (9, ji x_142)] s → yG F r_14 r_111 r_112 k x_138 x_139 x_140 x_141 x_142 = some r → Run D σ (R63 r) (.run Z1 [.lp Z1, .bk 1, .bk 0, .sq XT]) s := by
 intro k
 induction k with
 | zero => intro x_138 x_139 x_140 x_141 x_142 s _ h; exact nm h
 | succ k ih =>
   intro x_138 x_139 x_140 x_141 x_142 s hs h
   rw [yG] at h
   obtain ⟨h0, h4, h5, h6, h7, h8, h9⟩ := hs
   refine .seq (.seq (rg (gm h9 fun h37 => gm h5 fun h38 => g2 37 38 (jb (decide (x_142 < r_14))) h37 h38 fun h39 => gq (.nsq (zi (t := decide (x_142 < r_14)) h39 h (fun h => ?_) (fun h => ?_))))))
   · refine .skip (.nsq (.seq (.block (.seq (.seq (rg (gm h9 fun h42 => g1 42 (ji (w64 (x_142 + 1))) h42 fun h43 => gm h43 fun h10 => gq (.nsq (.block (.loop ?_))))))))))
     exact zgA H r_14 r_111 r_112 x_142 (yG F r_14 r_111 r_112 k) ih F x_138 x_139 x_140 x_141 (w64 (x_142 + 1)) _ ⟨h0, h4, h5, h6, h7, h8, h9, h10⟩ h
   refine .exit (.esq (.elp (.ebk ?_)))
   exact Wf H x_138 x_139 x_140 r_14 x_141 _ ⟨h0, h4, h6⟩ h
def xj (F : Nat) (x_2 : Int)  (x_10 : LB) (x_11 : Int) (x_12 : Int) (x_13 : Int) : Option (GR × CU) :=
 (uI F x_13 x_2).bind fun r_14 =>
 (ye F (cu x_10 x_11 x_12) 8).bind fun r_15 =>
 bif (r_15.1 == 0) then
  (uy F r_14).bind fun r_108 =>
  yx F r_15.2.a r_15.2.b r_15.2.c.v r_108.1 r_108.2
 else
  bif (r_15.1 == 1) then
   bif decide (r_14 > 2) then
    (vD F r_14).bind fun r_109 =>
    yx F r_15.2.a r_15.2.b r_15.2.c.v r_109.1 r_109.2
   else
    yx F r_15.2.a r_15.2.b r_15.2.c.v r_14 (.of [])
  else
   bif (r_15.1 == 2) then
    (wR F r_14).bind fun r_110 =>
    yx F r_15.2.a r_15.2.b r_15.2.c.v r_110.1 r_110.2
   else
    (yJ F (Cu.mk r_15.2) [3, 4, 6]).bind fun r_111 =>
    (xN F (Cu.mk r_111.2) 6).bind fun r_112 =>
    yG F r_14 r_111 r_112 F r_112.2.a r_112.2.b r_112.2.c.v (.of []) 0
theorem QZ (H : H63 D σ F) (x_2 : Int)  (x_10 : LB) (x_11 : Int) (x_12 : Int) (x_13 : Int) (s : Nat → V) (hs : zl [(0, .ref (.bx zA) 0 [] (.agg [eB x_10, ji x_11, .int .u64 x_12])), (1, ji x_2), (4, bZ 4), (5, ji x_13)] s) (h : xj F x_2  x_10 x_11 x_12 x_13 = some r) : Run D σ (R63 r) (.nrm [.sq zbp]) s := by
 unfold xj at h
 obtain ⟨h0, h1, h4, h5⟩ := hs
 refine .nsq (.seq (rg (gm h5 fun h24 => gm h1 fun h25 => ?_)))
 obtain ⟨r_14, E_r_14, h⟩ := bind_some h
 refine zB (m := 0) (al := false) (r := Enc.enc (r_14 : Int)) [Enc.enc (x_13 : Int), Enc.enc (x_2 : Int)] (zd (v := ji x_13) h24 rfl rfl (zd (v := ji x_2) h25 rfl rfl zw)) (H.c64 _ _ _ E_r_14) H.g64 rfl rfl rfl rfl (gm (rf (ji r_14)) fun h5 => gq (.nsq (.seq (zt (zR ?_)))))
 refine ez [(0, _), (4, _), (5, _), (6, _), (28, _)] ⟨za h0 rfl (zh rfl vz), za h4 rfl (zh rfl (mIx rfl)), za h5 rfl mi, zb rfl, zb rfl⟩ ?_
 rintro s ⟨h0, h4, h5, h6, h28⟩
 refine gm h5 fun h27 => xf [] [] trivial rfl rfl h28 (g2 27 28 (.agg [ji r_14, zj (.at 28 []) (.of ([] : LP))]) h27 (rf (zj (.at 28 []) (.of ([] : LP)))) fun h29 => xp h6 (z7 (.agg [ji r_14, zj (.at 28 []) (.of ([] : LP))]) (zy rfl rfl) (zy h29 rfl) (xR (by first | rfl | simp [V.toks, V.tokss, Enc.toks_enc, z4])) (gz [(0, .ref (.bx zA) 0 [] (.agg [eB x_10, ji x_11, .int .u64 x_12])), (4, bZ 4), (5, ji r_14), (6, .ref (.bx 6) 0 [] (.agg [ji r_14, zj (.at 28 []) (.of ([] : LP))]))] ⟨zc h0 (zD rfl rfl Wx), zc h4 (zD rfl rfl (yp (zq rfl (zq rfl rfl)))), zc h5 rfl, zc rfl rfl⟩ ?_)))
 rintro s ⟨h0, h4, h5, h6⟩
 refine .nsq (.seq (.seq (rg (gm h0 fun h30 => ?_))))
 obtain ⟨r_15, E_r_15, h⟩ := bind_some h
 refine vw (r := zA) (b := 0) (x := ((S3.mk x_10 x_11 (Kd.mk x_12 : Kd .u64)) : CU)) (x' := r_15.2) (vs := [Enc.enc (8 : Int)]) (res := Enc.enc (r_15.1 : Int)) h0 (by exact (zK (v := cuV zA ((S3.mk x_10 x_11 (Kd.mk x_12 : Kd .u64)) : CU)) h30 rfl (zK (v := Enc.enc (8 : Int)) rfl rfl yA))) (z9 te yn) fm1 (H.c65 _ _ _ E_r_15) H.g65 te rfl (fun s_8 hb_8 ha_8 => ?_)
 refine gz [(0, _), (4, bZ 4), (5, ji r_14), (6, .ref (.bx 6) 0 [] (.agg [ji r_14, zj (.at 28 []) (.of ([] : LP))])), (31, ji r_15.1)] ⟨(show s_8 0 = (bC r_15.2) from hb_8 0 h0), (show s_8 4 = (bZ 4) from ha_8 4 _ _ h4 rfl (zh rfl (mIx rfl))), (show s_8 5 = (ji r_14) from ha_8 5 _ _ h5 rfl mi), (show s_8 6 = (.ref (.bx 6) 0 [] (.agg [ji r_14, zj (.at 28 []) (.of ([] : LP))])) from ha_8 6 _ _ h6 rfl (zh rfl (zF (ze mi (ze (zm (r := 28) (p := []) rfl rfl) zn))))), rfl⟩ ?_
 rintro s ⟨h0, h4, h5, h6, h31⟩
 refine .nsq (.block (.seq (rg (g1 31 (jb (r_15.1 == 0)) h31 fun h85 => gm h85 fun h84 => gq (.nsq (zi (t := (r_15.1 == 0)) h84 h (fun h => ?_) (fun h => ?_)))))))
 · refine zt (zR ?_)
   refine ez [(0, _), (4, _), (5, _), (6, _), (87, _)] ⟨za h0 rfl (zh rfl vz), za h4 rfl (zh rfl (mIx rfl)), za h5 rfl mi, za h6 rfl (zh rfl (zF (ze mi (ze (zm (r := 28) (p := []) rfl rfl) zn)))), zb rfl⟩ ?_
   rintro s ⟨h0, h4, h5, h6, h87⟩
   refine gm h5 fun h86 => ?_
   obtain ⟨r_108, E_r_108, h⟩ := bind_some h
   refine YG (m := 1) (al := false) (r := .agg [Enc.enc (r_108.1 : Int), zj .sh (r_108.2 : NL (Int × Int))]) (v := .agg [ji r_108.1, zj (.at 87 [1]) (r_108.2 : NL (Int × Int))]) (kk := 1000000071) [Enc.enc (r_14 : Int)] (zd (v := ji r_14) h86 rfl rfl zw) (H.c71o _ _ E_r_108) H.g71o rfl (UG (z9 rfl (z9 vV yn))) (Kb (uH rfl (uH Za Uz))) rfl h87 ?_
   refine z7 (.agg [ji r_108.1, zj (.at 87 [1]) (r_108.2 : NL (Int × Int))]) (zy h6 rfl) (zy rfl rfl) ⟨by decide, by decide, rfl, (by simp [V.shape, V.shapes, xr, Sh.beq, Sh.beqs]), (by simp [V.shape, V.shapes, xr, Sh.beq, Sh.beqs]), (by simp [V.toks, V.tokss, z4])⟩ (yE (X4 (x := 28) (fun s_108 hx_108 hd_108 => zgs (x := 28) (q := 87) (p := [1]) (v := .dead) (by exact hx_108) rfl (fun s_109 hg_109 => ?_))))
   refine ez [(0, bC r_15.2), (4, bZ 4), (6, .ref (.bx 6) 0 [] (.agg [ji r_108.1, zj (.at 28 []) (r_108.2 : NL (Int × Int))]))] ⟨hg_109 0 _ (bC r_15.2) (show s_108 0 = (bC r_15.2) from (hd_108 0 (by decide)).trans (zc h0 (zD rfl rfl Wx))) (zh rfl vz), hg_109 4 _ (bZ 4) (show s_108 4 = (bZ 4) from (hd_108 4 (by decide)).trans (zc h4 (zD rfl rfl (yp (zq rfl (zq rfl rfl)))))) (zh rfl (mIx rfl)), hg_109 6 _ (.ref (.bx 6) 0 [] (.agg [ji r_108.1, zj (.at 28 []) (r_108.2 : NL (Int × Int))])) (show s_108 6 = (.ref (.bx 6) 0 [] (.agg [ji r_108.1, zj (.at 87 [1]) (r_108.2 : NL (Int × Int))])) from (hd_108 6 (by decide)).trans (zc h6 rfl)) (zh rfl (zF (ze mi (ze (zm (r := 87) (p := [1]) rfl rfl) zn))))⟩ ?_
   rintro s ⟨h0, h4, h6⟩
   exact Wf H r_15.2.a r_15.2.b r_15.2.c.v r_108.1 r_108.2 _ ⟨h0, h4, h6⟩ h
 refine .seq (rg (g1 31 (jb (r_15.1 == 1)) h31 fun h89 => gm h89 fun h88 => gq (.nsq (zi (t := (r_15.1 == 1)) h88 h (fun h => ?_) (fun h => ?_)))))
 · refine .seq (rg (gm h5 fun h90 => g1 90 (jb (decide (r_14 > 2))) h90 fun h91 => gq (.nsq (zi (t := decide (r_14 > 2)) h91 h (fun h => ?_) (fun h => ?_)))))
   · refine zt (zR ?_)
     refine ez [(0, _), (4, _), (5, _), (6, _), (93, _)] ⟨za h0 rfl (zh rfl vz), za h4 rfl (zh rfl (mIx rfl)), za h5 rfl mi, za h6 rfl (zh rfl (zF (ze mi (ze (zm (r := 28) (p := []) rfl rfl) zn)))), zb rfl⟩ ?_
     rintro s ⟨h0, h4, h5, h6, h93⟩
     refine gm h5 fun h92 => ?_
     obtain ⟨r_109, E_r_109, h⟩ := bind_some h
     refine YG (m := 1) (al := false) (r := .agg [Enc.enc (r_109.1 : Int), zj .sh (r_109.2 : NL (Int × Int))]) (v := .agg [ji r_109.1, zj (.at 93 [1]) (r_109.2 : NL (Int × Int))]) (kk := 1000000072) [Enc.enc (r_14 : Int)] (zd (v := ji r_14) h92 rfl rfl zw) (H.c72o _ _ E_r_109) H.g72o rfl (UG (z9 rfl (z9 vV yn))) (Kb (uH rfl (uH Za Uz))) rfl h93 ?_
     refine z7 (.agg [ji r_109.1, zj (.at 93 [1]) (r_109.2 : NL (Int × Int))]) (zy h6 rfl) (zy rfl rfl) ⟨by decide, by decide, rfl, (by simp [V.shape, V.shapes, xr, Sh.beq, Sh.beqs]), (by simp [V.shape, V.shapes, xr, Sh.beq, Sh.beqs]), (by simp [V.toks, V.tokss, z4])⟩ (yE (X4 (x := 28) (fun s_111 hx_111 hd_111 => zgs (x := 28) (q := 93) (p := [1]) (v := .dead) (by exact hx_111) rfl (fun s_112 hg_112 => ?_))))
     refine ez [(0, bC r_15.2), (4, bZ 4), (6, .ref (.bx 6) 0 [] (.agg [ji r_109.1, zj (.at 28 []) (r_109.2 : NL (Int × Int))]))] ⟨hg_112 0 _ (bC r_15.2) (show s_111 0 = (bC r_15.2) from (hd_111 0 (by decide)).trans (zc h0 (zD rfl rfl Wx))) (zh rfl vz), hg_112 4 _ (bZ 4) (show s_111 4 = (bZ 4) from (hd_111 4 (by decide)).trans (zc h4 (zD rfl rfl (yp (zq rfl (zq rfl rfl)))))) (zh rfl (mIx rfl)), hg_112 6 _ (.ref (.bx 6) 0 [] (.agg [ji r_109.1, zj (.at 28 []) (r_109.2 : NL (Int × Int))])) (show s_111 6 = (.ref (.bx 6) 0 [] (.agg [ji r_109.1, zj (.at 93 [1]) (r_109.2 : NL (Int × Int))])) from (hd_111 6 (by decide)).trans (zc h6 rfl)) (zh rfl (zF (ze mi (ze (zm (r := 93) (p := [1]) rfl rfl) zn))))⟩ ?_
     rintro s ⟨h0, h4, h6⟩
     exact Wf H r_15.2.a r_15.2.b r_15.2.c.v r_109.1 r_109.2 _ ⟨h0, h4, h6⟩ h
   refine .skip ?_
   exact Wf H r_15.2.a r_15.2.b r_15.2.c.v r_14 (.of []) _ ⟨h0, h4, h6⟩ h
 refine .seq (rg (g1 31 (jb (r_15.1 == 2)) h31 fun h95 => gm h95 fun h94 => gq (.nsq (zi (t := (r_15.1 == 2)) h94 h (fun h => ?_) (fun h => ?_)))))
 · refine zt (zR ?_)
   refine ez [(0, _), (4, _), (5, _), (6, _), (97, _)] ⟨za h0 rfl (zh rfl vz), za h4 rfl (zh rfl (mIx rfl)), za h5 rfl mi, za h6 rfl (zh rfl (zF (ze mi (ze (zm (r := 28) (p := []) rfl rfl) zn)))), zb rfl⟩ ?_
   rintro s ⟨h0, h4, h5, h6, h97⟩
   refine gm h5 fun h96 => ?_
   obtain ⟨r_110, E_r_110, h⟩ := bind_some h
   refine YG (m := 1) (al := false) (r := .agg [Enc.enc (r_110.1 : Int), zj .sh (r_110.2 : NL (Int × Int))]) (v := .agg [ji r_110.1, zj (.at 97 [1]) (r_110.2 : NL (Int × Int))]) (kk := 1000000073) [Enc.enc (r_14 : Int)] (zd (v := ji r_14) h96 rfl rfl zw) (H.c73o _ _ E_r_110) H.g73o rfl (UG (z9 rfl (z9 vV yn))) (Kb (uH rfl (uH Za Uz))) rfl h97 ?_
   refine z7 (.agg [ji r_110.1, zj (.at 97 [1]) (r_110.2 : NL (Int × Int))]) (zy h6 rfl) (zy rfl rfl) ⟨by decide, by decide, rfl, (by simp [V.shape, V.shapes, xr, Sh.beq, Sh.beqs]), (by simp [V.shape, V.shapes, xr, Sh.beq, Sh.beqs]), (by simp [V.toks, V.tokss, z4])⟩ (yE (X4 (x := 28) (fun s_114 hx_114 hd_114 => zgs (x := 28) (q := 97) (p := [1]) (v := .dead) (by exact hx_114) rfl (fun s_115 hg_115 => ?_))))
   refine ez [(0, bC r_15.2), (4, bZ 4), (6, .ref (.bx 6) 0 [] (.agg [ji r_110.1, zj (.at 28 []) (r_110.2 : NL (Int × Int))]))] ⟨hg_115 0 _ (bC r_15.2) (show s_114 0 = (bC r_15.2) from (hd_114 0 (by decide)).trans (zc h0 (zD rfl rfl Wx))) (zh rfl vz), hg_115 4 _ (bZ 4) (show s_114 4 = (bZ 4) from (hd_114 4 (by decide)).trans (zc h4 (zD rfl rfl (yp (zq rfl (zq rfl rfl)))))) (zh rfl (mIx rfl)), hg_115 6 _ (.ref (.bx 6) 0 [] (.agg [ji r_110.1, zj (.at 28 []) (r_110.2 : NL (Int × Int))])) (show s_114 6 = (.ref (.bx 6) 0 [] (.agg [ji r_110.1, zj (.at 97 [1]) (r_110.2 : NL (Int × Int))])) from (hd_114 6 (by decide)).trans (zc h6 rfl)) (zh rfl (zF (ze mi (ze (zm (r := 97) (p := [1]) rfl rfl) zn))))⟩ ?_
   rintro s ⟨h0, h4, h6⟩
   exact Wf H r_15.2.a r_15.2.b r_15.2.c.v r_110.1 r_110.2 _ ⟨h0, h4, h6⟩ h
 refine .seq (zt (zR ?_))
 refine ez [(0, _), (4, _), (5, _), (6, _), (33, _)] ⟨za h0 rfl (zh rfl vz), za h4 rfl (zh rfl (mIx rfl)), za h5 rfl mi, za h6 rfl (zh rfl (zF (ze mi (ze (zm (r := 28) (p := []) rfl rfl) zn)))), zb rfl⟩ ?_
 rintro s ⟨h0, h4, h5, h6, h33⟩
 refine gm h0 fun h32 => NW [] ([3, 4, 6] : LI) trivial rfl rfl rfl h33 (fun s_117 hd_117 hl_117 => ?_)
 obtain ⟨r_111, E_r_111, h⟩ := bind_some h
 refine vw (r := zA) (b := 0) (x := r_15.2) (x' := r_111.2) (vs := [Enc.enc ([3, 4, 6] : LI)]) (res := Enc.enc (r_111.1 : Int)) (show s_117 0 = (bC r_15.2) from hl_117 0 _ _ (by decide) h0 (zS rfl YW rfl)) (by exact (zK (v := cuV zA r_15.2) (show s_117 32 = (bC r_15.2) from hl_117 32 _ _ (by decide) h32 (zS rfl YW rfl)) rfl (zK (v := Enc.enc ([3, 4, 6] : LI)) (show s_117 33 = (eL [3, 4, 6]) from hd_117) rfl yA))) (z9 te yn) fm1 (H.c67 _ _ _ E_r_111) H.g67 te rfl (fun s_118 hb_118 ha_118 => ?_)
 refine gm (show s_118 0 = (bC r_111.2) from hb_118 0 (show s_117 0 = (bC r_15.2) from hl_117 0 _ _ (by decide) h0 (zS rfl YW rfl))) fun h35 => ?_
 obtain ⟨r_112, E_r_112, h⟩ := bind_some h
 refine vw (r := zA) (b := 0) (x := r_111.2) (x' := r_112.2) (vs := [Enc.enc (6 : Int)]) (res := Enc.enc (r_112.1 : Bool)) (show s_118 0 = (bC r_111.2) from hb_118 0 (show s_117 0 = (bC r_15.2) from hl_117 0 _ _ (by decide) h0 (zS rfl YW rfl))) (by exact (zK (v := cuV zA r_111.2) h35 rfl (zK (v := Enc.enc (6 : Int)) rfl rfl yA))) (z9 te yn) fm1 (H.c66 _ _ _ E_r_112) H.g66 te rfl (fun s_119 hb_119 ha_119 => gm (show s_119 34 = (ji r_111.1) from ha_119 34 (ji r_111.1) _ rfl rfl mi) fun h7 => gm (rf (jb r_112.1)) fun h8 => ?_)
 refine gz [(0, bC r_112.2), (4, bZ 4), (5, ji r_14), (6, .ref (.bx 6) 0 [] (.agg [ji r_14, zj (.at 28 []) (.of ([] : LP))])), (7, _), (8, _)] ⟨(show s_119 0 = (bC r_112.2) from hb_119 0 (show s_118 0 = (bC r_111.2) from hb_118 0 (show s_117 0 = (bC r_15.2) from hl_117 0 _ _ (by decide) h0 (zS rfl YW rfl)))), (show s_119 4 = (bZ 4) from ha_119 4 (bZ 4) _ (show s_118 4 = (bZ 4) from ha_118 4 (bZ 4) _ (show s_117 4 = (bZ 4) from hl_117 4 _ _ (by decide) h4 (zS rfl (vU (yl rfl (yl rfl rfl))) rfl)) rfl (zh rfl (mIx rfl))) rfl (zh rfl (mIx rfl))), (show s_119 5 = (ji r_14) from ha_119 5 (ji r_14) _ (show s_118 5 = (ji r_14) from ha_118 5 (ji r_14) _ (show s_117 5 = (ji r_14) from hl_117 5 _ _ (by decide) h5 rfl) rfl mi) rfl mi), (show s_119 6 = (.ref (.bx 6) 0 [] (.agg [ji r_14, zj (.at 28 []) (.of ([] : LP))])) from ha_119 6 (.ref (.bx 6) 0 [] (.agg [ji r_14, zj (.at 28 []) (.of ([] : LP))])) _ (show s_118 6 = (.ref (.bx 6) 0 [] (.agg [ji r_14, zj (.at 28 []) (.of ([] : LP))])) from ha_118 6 (.ref (.bx 6) 0 [] (.agg [ji r_14, zj (.at 28 []) (.of ([] : LP))])) _ (show s_117 6 = (.ref (.bx 6) 0 [] (.agg [ji r_14, zj (.at 28 []) (.of ([] : LP))])) from hl_117 6 _ _ (by decide) h6 (zS rfl (vU (yl rfl (yl (XB rfl rfl) rfl))) rfl)) rfl (zh rfl (zF (ze mi (ze (zm (r := 28) (p := []) rfl rfl) zn))))) rfl (zh rfl (zF (ze mi (ze (zm (r := 28) (p := []) rfl rfl) zn))))), h7, h8⟩ ?_
 rintro s ⟨h0, h4, h5, h6, h7, h8⟩
 refine .nsq (.seq (rg (g0 (ji 0) fun h9 => gq (.nsq (.block (.loop ?_))))))
 exact zfg H r_14 r_111 r_112 F r_112.2.a r_112.2.b r_112.2.c.v (.of []) 0 _ ⟨h0, h4, h5, h6, h7, h8, h9⟩ h
def xO (F : Nat) (x_2 : Int) (r_3 : (Int × CU))  (x_5 : LB) (x_6 : Int) (x_7 : Int) (x_8 : Bool) : Option (GR × CU) :=
 bif x_8 then
  (ye F (cu x_5 x_6 x_7) 2).bind fun r_193 =>
  xj F x_2 r_193.2.a r_193.2.b r_193.2.c.v (w64 (7 + r_193.1))
 else
  xj F x_2 x_5 x_6 x_7 r_3.1
theorem QJ (H : H63 D σ F) (x_2 : Int) (r_3 : (Int × CU))  (x_5 : LB) (x_6 : Int) (x_7 : Int) (x_8 : Bool) (s : Nat → V) (hs : zl [(0, .ref (.bx zA) 0 [] (.agg [eB x_5, ji x_6, .int .u64 x_7])), (1, ji x_2), (4, bZ 4), (5, ji r_3.1), (20, jb x_8)] s) (h : xO F x_2 r_3  x_5 x_6 x_7 x_8 = some r) : Run D σ (R63 r) (.nrm [.sq ze1, .sq zbp]) s := by
 unfold xO at h
 obtain ⟨h0, h1, h4, h5, h20⟩ := hs
 refine .nsq (zi (t := x_8) h20 h (fun h => ?_) (fun h => ?_))
 · refine rg (gm h0 fun h21 => ?_)
   obtain ⟨r_193, E_r_193, h⟩ := bind_some h
   refine vw (r := zA) (b := 0) (x := ((S3.mk x_5 x_6 (Kd.mk x_7 : Kd .u64)) : CU)) (x' := r_193.2) (vs := [Enc.enc (2 : Int)]) (res := Enc.enc (r_193.1 : Int)) h0 (by exact (zK (v := cuV zA ((S3.mk x_5 x_6 (Kd.mk x_7 : Kd .u64)) : CU)) h21 rfl (zK (v := Enc.enc (2 : Int)) rfl rfl yA))) (z9 te yn) fm1 (H.c65 _ _ _ E_r_193) H.g65 te rfl (fun s_204 hb_204 ha_204 => g1 22 (ji (w64 (7 + r_193.1))) (rf (ji r_193.1)) fun h23 => ?_)
   refine gm h23 fun h5 => gz [(0, _), (1, ji x_2), (4, bZ 4), (5, _)] ⟨(show s_204 0 = (bC r_193.2) from hb_204 0 h0), (show s_204 1 = (ji x_2) from ha_204 1 _ _ h1 rfl mi), (show s_204 4 = (bZ 4) from ha_204 4 _ _ h4 rfl (zh rfl (mIx rfl))), h5⟩ ?_
   rintro s ⟨h0, h1, h4, h5⟩
   exact QZ H x_2 r_193.2.a r_193.2.b r_193.2.c.v (w64 (7 + r_193.1)) _ ⟨h0, h1, h4, h5⟩ h
 refine .skip ?_
 exact QZ H x_2 x_5 x_6 x_7 r_3.1 _ ⟨h0, h1, h4, h5⟩ h
def xq (F : Nat) (x_1 : CC) (x_2 : Int) : Option (GR × CU) :=
 (yJ F (Cu.mk x_1.v) [4, 5, 3, 6, 2, 1, 0]).bind fun r_3 =>
 bif decide (x_2 > 6) then
  (xN F (Cu.mk r_3.2) 4).bind fun r_194 =>
  xO F x_2 r_3 r_194.2.a r_194.2.b r_194.2.c.v r_194.1
 else
  xO F x_2 r_3 r_3.2.a r_3.2.b r_3.2.c.v false
theorem t63 (H : H63 D σ F) (x_1 : CC) (x_2 : Int) (s : Nat → V) (hs : zl [(0, bC x_1.v), (1, ji x_2)] s) (h : xq F x_1 x_2 = some r) : Run D σ (R63 r) (.run A63 []) s := by
 unfold xq at h
 obtain ⟨h0, h1⟩ := hs
 refine .seq (zt (zR ?_))
 refine ez [(0, _), (1, _), (4, _)] ⟨za h0 rfl (zh rfl vz), za h1 rfl mi, zb rfl⟩ ?_
 rintro s ⟨h0, h1, h4⟩
 refine xp h4 (gq (.nsq (.seq (zt (zR ?_)))))
 refine ez [(0, _), (1, _), (4, _), (13, _)] ⟨za h0 rfl (zh rfl vz), za h1 rfl mi, za rfl rfl (zh rfl (mIx rfl)), zb rfl⟩ ?_
 rintro s ⟨h0, h1, h4, h13⟩
 refine gm h0 fun h12 => NW [] ([4, 5, 3, 6, 2, 1, 0] : LI) trivial rfl rfl rfl h13 (fun s_3 hd_3 hl_3 => ?_)
 obtain ⟨r_3, E_r_3, h⟩ := bind_some h
 refine vw (r := zA) (b := 0) (x := x_1.v) (x' := r_3.2) (vs := [Enc.enc ([4, 5, 3, 6, 2, 1, 0] : LI)]) (res := Enc.enc (r_3.1 : Int)) (show s_3 0 = (bC x_1.v) from hl_3 0 _ _ (by decide) h0 (zS rfl YW rfl)) (by exact (zK (v := cuV zA x_1.v) (show s_3 12 = (bC x_1.v) from hl_3 12 _ _ (by decide) h12 (zS rfl YW rfl)) rfl (zK (v := Enc.enc ([4, 5, 3, 6, 2, 1, 0] : LI)) (show s_3 13 = (eL [4, 5, 3, 6, 2, 1, 0]) from hd_3) rfl yA))) (z9 te yn) fm1 (H.c67 _ _ _ E_r_3) H.g67 te rfl (fun s_4 hb_4 ha_4 => gm (rf (ji r_3.1)) fun h5 => ?_)
 refine gz [(0, bC r_3.2), (1, ji x_2), (4, bZ 4), (5, _)] ⟨(show s_4 0 = (bC r_3.2) from hb_4 0 (show s_3 0 = (bC x_1.v) from hl_3 0 _ _ (by decide) h0 (zS rfl YW rfl))), (show s_4 1 = (ji x_2) from ha_4 1 (ji x_2) _ (show s_3 1 = (ji x_2) from hl_3 1 _ _ (by decide) h1 rfl) rfl mi), (show s_4 4 = (bZ 4) from ha_4 4 (bZ 4) _ (show s_3 4 = (bZ 4) from hl_3 4 _ _ (by decide) h4 (zS rfl (vU (yl rfl (yl rfl rfl))) rfl)) rfl (zh rfl (mIx rfl))), h5⟩ ?_
 rintro s ⟨h0, h1, h4, h5⟩
 refine .nsq (.seq (.seq (rg (gm h1 fun h15 => g1 15 (jb (decide (x_2 > 6))) h15 fun h16 => gm h16 fun h17 => zP (c := decide (x_2 > 6)) h (fun hg3 h => ?_) (fun hg3 h => ?_)))))
 · refine zg (ct h17 hg3) (gm h0 fun h18 => ?_)
   obtain ⟨r_194, E_r_194, h⟩ := bind_some h
   refine zg (ct h17 hg3) (vw (r := zA) (b := 0) (x := r_3.2) (x' := r_194.2) (vs := [Enc.enc (4 : Int)]) (res := Enc.enc (r_194.1 : Bool)) h0 (by exact (zK (v := cuV zA r_3.2) h18 rfl (zK (v := Enc.enc (4 : Int)) rfl rfl yA))) (z9 te yn) fm1 (H.c66 _ _ _ E_r_194) H.g66 te rfl (fun s_205 hb_205 ha_205 => g2 17 19 (jb r_194.1) (show s_205 17 = (jb true) from ha_205 17 _ _ (ct h17 hg3) rfl mb) (rf (jb r_194.1)) fun h20 => ?_))
   refine gz [(0, _), (1, ji x_2), (4, bZ 4), (5, ji r_3.1), (20, _)] ⟨(show s_205 0 = (bC r_194.2) from hb_205 0 h0), (show s_205 1 = (ji x_2) from ha_205 1 _ _ h1 rfl mi), (show s_205 4 = (bZ 4) from ha_205 4 _ _ h4 rfl (zh rfl (mIx rfl))), (show s_205 5 = (ji r_3.1) from ha_205 5 _ _ h5 rfl mi), h20⟩ ?_
   rintro s ⟨h0, h1, h4, h5, h20⟩
   exact QJ H x_2 r_3 r_194.2.a r_194.2.b r_194.2.c.v r_194.1 _ ⟨h0, h1, h4, h5, h20⟩ h
 iterate 2 refine ym (ct h17 hg3) ?_
 refine g2 17 19 (jb false) (ct h17 hg3) (rf (.tup [])) fun h20 => gq ?_
 exact QJ H x_2 r_3 r_3.2.a r_3.2.b r_3.2.c.v false _ ⟨h0, h1, h4, h5, h20⟩ h
end
def e63 (F : Nat) : Ent := ent 63 (fun (x : (CC × Int × Unit)) => xq F x.1 x.2.1) (fun (r : (GR × CU)) => (.tup [Enc.enc (r.1 : GR), .tup [cuV zA r.2]])) uf false []
abbrev C63 (D : List V → Option V) (F : Nat) : Prop := ∀ (x0 : CC) (x1 : Int) r, xq F x0 x1 = some r → D [Arg.arg x0, Enc.enc x1] = some (.tup [Enc.enc (r.1 : GR), .tup [cuV zA r.2]])
theorem p63 {F : Nat} : C63 (e63 F).den F := fun x0 x1 _ h => zJ (x0, x1, ()) h
theorem o63 {D : Den} {σ : Sig} {F : Nat} (hF : zu Try.prog D σ) (H : H63 D σ F) : (e63 F).Ok Try.prog := by
 refine yd (f := 63) (show unk 63 = 63 from rfl) (fun args r h => ?_) ⟨Try.f63, Try.func63, rfl, rfl⟩
 obtain ⟨⟨x0, x1, _⟩, y, rfl, hy, rfl⟩ := zH h
 exact x8 hF (by kernel_rfl) Try.func63 rfl c63 rfl (show 2 ≤ Try.f63.ntmps by decide) (by decide) (t63 H x0 x1 _ ⟨rfl, rfl⟩ hy)
end Go.Zq
