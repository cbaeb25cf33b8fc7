/- Functions of the program as typed functions, and that the machine runs as they say (part 2). No further condition. -/
import Derived.Test.YtdhbhaaiohkpdaaK3
import Derived.Test.YtdhbhaaiohkpdaaProg
import Derived.Test.YtdhbhaaiohkpdaaChecked
import Derived.KernelRfl
import Derived.Test.YtdhbhaaiohkpdaaG1
set_option linter.unusedVariables false
set_option linter.unusedSimpArgs false
/- Functions of the program, as typed functions, and that the machine runs as they say. -/
namespace Go.Zq
open Go.Proofs
/- loop.example/g01109/spec.l6Shortest -/
def A104_2 : AC := (.cond (.t 22) .skip (.exit 0))
def A104_4 : AC := (.cond (.t 31) (.seq (.reg [] [(jm 32 7), (jm 33 9), ((jv 34 (.idx (.t 32) (.t 33) 1))), ((jv 35 (.load .p (.t 34)))), (jm 4 35), ((jv 5 (.mov (.k (.bool true)))))] []) .ret) .skip)
def A104_8 : AC := (.cond (.t 42) .skip (.exit 2))
def A104_10 : AC := (.cond (.t 66) (.exit 3) .skip)
def A104_16 : AC := (.reg [.clr [93, 95, 96, 97, 98]] [(jm 88 7), (jm 89 7), (jm 90 9), ((jv 91 (.idx (.t 89) (.t 90) 1))), ((jv 92 (.load .p (.t 91)))), (.mk (some 93) none false (.callO (.k (.fn 97 [] [])) [(.t 92)])), (jm 94 10), (.mk (some 95) none false (.lit (.int .i64 (.ofNat 0)) 1 [(0, 0, (.t 94))])), (.mk (some 96) none false (.app .s (.t 93) (.t 95))), (.mk (some 97) none false (.lit (.sl .nl .s 0 []) 1 [(0, 0, (.t 96))])), (.mk (some 98) none false (.app .p (.t 88) (.t 97))), (jm 7 98)] [.can 98, .home 98 7])
def A104_15 : AC := (.seq (.reg [.clr [86, 87]] [(jm 84 6), ((jv 85 (.load (.ag [.p, .p]) (.t 11)))), (.mk (some 86) none false (.lit (.agg [(.sl .nl .s 0 []), (.sl .nl .s 0 [])]) 1 [(0, 0, (.t 85))])), (.mk (some 87) none false (.app (.ag [.p, .p]) (.t 84) (.t 86))), (jm 6 87)] [.home 87 6]) A104_16)
def A104_14 : AC := (.cond (.t 80) (.seq (.reg [] [(jm 81 8), (jm 82 12), ((jv 83 (.idx (.t 81) (.t 82) 1))), (.mk none none false (.store .s (.t 83) (.k (.bool true))))] []) A104_15) .skip)
def A104_13 : AC := (.seq (.reg [] [(jm 76 8), (jm 77 12), ((jv 78 (.idx (.t 76) (.t 77) 1))), ((jv 79 (.load .s (.t 78)))), ((jv 80 (.un .not (.t 79))))] []) A104_14)
def A104_12 : AC := (.seq (.reg [] [((jv 74 (.load (.ag [.p, .p]) (.t 11)))), (.mk (some 75) none false (.call (.k (.fn 158 [] [])) [(.t 74)])), (jm 12 75)] []) A104_13)
def A104_11 : AC := (.seq (.reg [.clr [11]] [((jv 67 (.load (.ag [.s, .p]) (.t 2)))), (jm 68 6), (jm 69 9), ((jv 70 (.idx (.t 68) (.t 69) 2))), ((jv 71 (.load (.ag [.p, .p]) (.t 70)))), (jm 72 10), (.mk (some 73) none false (.call (.k (.fn 156 [] [])) [(.t 67), (.t 71), (.t 72)])), (.mk (some 11) none false (.alloc (.agg [(.sl .nl .s 0 []), (.sl .nl .s 0 [])]))), (.mk none none false (.store (.ag [.p, .p]) (.t 11) (.t 73)))] []) A104_12)
def A104_17 : AC := (.reg [] [(jm 43 10), ((jv 44 (.bin .add (.t 43) (jn 1)))), (jm 10 44)] [])
def A104_9 : AC := (.seq (.block 3 (.seq (.seq (.reg [] [((jv 45 (.load (.ag [.s, .p]) (.t 2)))), (jm 46 6), (jm 47 9), ((jv 48 (.idx (.t 46) (.t 47) 2))), ((jv 49 (.load (.ag [.p, .p]) (.t 48)))), (jm 50 10), (.mk (some 51) none false (.call (.k (.fn 155 [] [])) [(.t 45), (.t 49), (.t 50)])), ((jv 52 (.un .not (.t 51)))), (jm 53 52), ((jg 54 53 false (.mov (.t 10)))), ((jg 55 53 false (.bin .geq (.t 54) (jn 0)))), ((jg 56 53 false (.mov (.t 55)))), ((jg 57 56 true (.mov (.t 6)))), ((jg 58 56 true (.mov (.t 9)))), ((jg 59 56 true (.idx (.t 57) (.t 58) 2))), ((jg 60 56 true (.fld (.t 59) 0 0))), ((jg 61 56 true (.load .p (.t 60)))), ((jg 62 56 true (.len (.t 61)))), ((jg 63 56 true (.mov (.t 1)))), ((jg 64 56 true (.bin .eql (.t 62) (.t 63)))), ((jg 65 53 false (.pick (.t 56) (.t 64) (.k (.bool false))))), ((jv 66 (.pick (.t 53) (.k (.bool true)) (.t 65))))] []) A104_10) A104_11)) A104_17)
def A104_7 : AC := (.seq (.seq (.reg [] [(jm 39 10), ((jv 40 (.fld (.t 2) 0 0))), ((jv 41 (.load .s (.t 40)))), ((jv 42 (.bin .lss (.t 39) (.t 41))))] []) A104_8) A104_9)
def A104_6 : AC := (.block 2 (.loop A104_7))
def A104_5 : AC := (.seq (.reg [] [((jv 36 (.fld (.t 2) 0 0))), ((jv 37 (.load .s (.t 36)))), ((jv 38 (.un .neg (.t 37)))), (jm 10 38)] []) A104_6)
def A104_18 : AC := (.reg [] [(jm 23 9), ((jv 24 (.bin .add (.t 23) (jn 1)))), (jm 9 24)] [])
def A104_3 : AC := (.seq (.block 1 (.seq (.seq (.reg [] [(jm 25 6), (jm 26 9), ((jv 27 (.idx (.t 25) (.t 26) 2))), ((jv 28 (.fld (.t 27) 1 1))), ((jv 29 (.load .p (.t 28)))), ((jv 30 (.len (.t 29)))), ((jv 31 (.bin .eql (.t 30) (jn 0))))] []) A104_4) A104_5)) A104_18)
def A104_1 : AC := (.seq (.seq (.reg [] [(jm 19 9), (jm 20 6), ((jv 21 (.len (.t 20)))), ((jv 22 (.bin .lss (.t 19) (.t 21))))] []) A104_2) A104_3)
def A104_19 : AC := (.seq (.reg [.clr [99]] [(.mk (some 99) none false (.lit (.int .i64 (.ofNat 0)) 0 [])), (jm 4 99), ((jv 5 (.mov (.k (.bool false)))))] [.home 99 4]) .ret)
def A104_22 : AC := (.block 0 (.loop A104_1))
def A104_21 : AC := (.seq (.seq (.reg [] [((jv 9 (.mov (jn 0))))] []) A104_22) A104_19)
def A104_20 : AC := (.seq (.reg [.clr [15, 16, 17, 18]] [((jv 13 (.load (.ag [.s, .p]) (.t 2)))), (.mk (some 14) none false (.call (.k (.fn 154 [] [])) [(.t 13)])), (.mk (some 15) none false (.lit (.agg [(.sl .nl .s 0 []), (.sl .nl .s 0 [])]) 1 [(0, 0, (.t 14))])), (.mk (some 16) none false (.lit (.int .i64 (.ofNat 0)) 0 [])), (.mk (some 17) none false (.lit (.sl .nl .s 0 []) 1 [(0, 0, (.t 16))])), (.mk (some 18) none false (.mk (jn 65536) (.bool false) (.bool false))), (jm 6 15), (jm 7 17), (jm 8 18)] [.can 17, .home 15 6, .home 17 7, .home 18 8]) A104_21)
def A104 : AC := (.seq (.reg [.clr [2]] [(.mk (some 2) none false (.box (.t 0))), ((jv 4 (.mov (.k (.sl .nl .s 0 []))))), ((jv 5 (.mov (.k (.bool false)))))] []) A104_20)
def an104 : List An := [{ id := 0, pre := [.clr [2]], ep := [], lin := [], sp := [] }, { id := 1, pre := [.clr [15, 16, 17, 18]], ep := [.can 17, .home 15 6, .home 17 7, .home 18 8], lin := [], sp := [] }, { id := 11, pre := [.clr [11]], ep := [], lin := [], sp := [] }, { id := 15, pre := [.clr [86, 87]], ep := [.home 87 6], lin := [], sp := [] }, { id := 16, pre := [.clr [93, 95, 96, 97, 98]], ep := [.can 98, .home 98 7], lin := [], sp := [1005] }, { id := 17, pre := [.clr [99]], ep := [.home 99 4], lin := [], sp := [] }]
theorem c104 : cC Try.prog Try.f104.ntmps an104 (Try.f104.body.getD .skip) = some A104 := by kernel_rfl
structure H104 (D : Den) (σ : Sig) (F : Nat) : Prop where
  c154 : ∀ (x0 : (Int × (List (Int × Int)))) r, s_l6Begin F x0 = some r → D 154 [Enc.enc x0] = some (Enc.enc (r : ((List Int) × (List Int))))
  g154 : σ 154 = some (0, true)
  c155 : ∀ (x0 : (Int × (List (Int × Int)))) (x1 : ((List Int) × (List Int))) (x2 : Int) r, s_l6Can F x0 x1 x2 = some r → D 155 [Enc.enc x0, Enc.enc x1, Enc.enc x2] = some (Enc.enc (r : Bool))
  g155 : σ 155 = some (0, false)
  c156 : ∀ (x0 : (Int × (List (Int × Int)))) (x1 : ((List Int) × (List Int))) (x2 : Int) r, s_l6Step F x0 x1 x2 = some r → D 156 [Enc.enc x0, Enc.enc x1, Enc.enc x2] = some (Enc.enc (r : ((List Int) × (List Int))))
  g156 : σ 156 = some (0, true)
  c158 : ∀ (x0 : ((List Int) × (List Int))) r, s_l6Code F x0 = some r → D 158 [Enc.enc x0] = some (Enc.enc (r : Int))
  g158 : σ 158 = some (0, false)
  c97o : ∀ (x0 : (List Int)) r, s_l1Own_o F x0 = some r → D 1000000097 [Enc.enc x0] = some (encO .sh (r : NL Int))
  g97o : σ 1000000097 = some (1, false)
abbrev R104 (r : ((List Int) × Bool)) : (Nat → V) → Prop := RR Try.prog [.tmp 4, .tmp 5] 0 false (.tup [Enc.enc (r.1 : (List Int)), Enc.enc (r.2 : Bool)])
section
variable {D : Den} {σ : Sig} {F : Nat} {r : ((List Int) × Bool)}
def s_l6Shortest_j1 (F : Nat) (x_2 : Int) (x_1 : (Int × (List (Int × Int)))) (x_93 : Int) (x_211 : Int) (c1 : (List ((List Int) × (List Int))) → (List (NL Int)) → (List Bool) → Int → Option ((List Int) × Bool)) (c4 : (List ((List Int) × (List Int))) → (List (NL Int)) → (List Bool) → Int → Option ((List Int) × Bool)) (x_252 : (List ((List Int) × (List Int)))) (programs_253 : (List (NL Int))) (x_254 : (List Bool)) : Option ((List Int) × Bool) :=
  c4 x_252 programs_253 x_254 (w64 (x_211 + 1))
theorem t_f104_j1 (H : H104 D σ F) (x_2 : Int) (x_1 : (Int × (List (Int × Int)))) (x_93 : Int) (x_211 : Int) (c1 : (List ((List Int) × (List Int))) → (List (NL Int)) → (List Bool) → Int → Option ((List Int) × Bool)) (Hc1 : ∀ (x_90 : (List ((List Int) × (List Int)))) (programs_91 : (List (NL Int))) (x_92 : (List Bool)) (x_93 : Int) (s : Nat → V), Facts [(1, (ji x_2)), (2, (.ref (.bx 2) 0 [] (.agg [(ji x_1.1), (Enc.enc (x_1.2 : List (Int × Int)))]))), (4, (.sl .nl (Enc.shp Int) 0 [])), (5, (jb false)), (6, (encO (.at 6 []) (.of (x_90 : List ((List Int) × (List Int)))))), (7, (encN 7 [] (.of (programs_91 : List (NL Int)) : NL (NL Int)))), (8, (encO (.at 8 []) (.of (x_92 : List Bool)))), (9, (ji x_93))] s → c1 x_90 programs_91 x_92 x_93 = some r → Run D σ (R104 r) (.run A104_1 [.lp A104_1, .bk 0, .sq A104_19]) s) (c4 : (List ((List Int) × (List Int))) → (List (NL Int)) → (List Bool) → Int → Option ((List Int) × Bool)) (Hc4 : ∀ (x_208 : (List ((List Int) × (List Int)))) (programs_209 : (List (NL Int))) (x_210 : (List Bool)) (x_211 : Int) (s : Nat → V), Facts [(1, (ji x_2)), (2, (.ref (.bx 2) 0 [] (.agg [(ji x_1.1), (Enc.enc (x_1.2 : List (Int × Int)))]))), (4, (.sl .nl (Enc.shp Int) 0 [])), (5, (jb false)), (6, (encO (.at 6 []) (.of (x_208 : List ((List Int) × (List Int)))))), (7, (encN 7 [] (.of (programs_209 : List (NL Int)) : NL (NL Int)))), (8, (encO (.at 8 []) (.of (x_210 : List Bool)))), (9, (ji x_93)), (10, (ji x_211))] s → c4 x_208 programs_209 x_210 x_211 = some r → Run D σ (R104 r) (.run A104_7 [.lp A104_7, .bk 2, .bk 1, .sq A104_18, .lp A104_1, .bk 0, .sq A104_19]) s) (x_252 : (List ((List Int) × (List Int)))) (programs_253 : (List (NL Int))) (x_254 : (List Bool)) (s : Nat → V) (hs : Facts [(1, (ji x_2)), (2, (.ref (.bx 2) 0 [] (.agg [(ji x_1.1), (Enc.enc (x_1.2 : List (Int × Int)))]))), (4, (.sl .nl (Enc.shp Int) 0 [])), (5, (jb false)), (6, (encO (.at 6 []) (.of (x_252 : List ((List Int) × (List Int)))))), (7, (encN 7 [] (.of (programs_253 : List (NL Int)) : NL (NL Int)))), (8, (encO (.at 8 []) (.of (x_254 : List Bool)))), (9, (ji x_93)), (10, (ji x_211))] s) (h : s_l6Shortest_j1 F x_2 x_1 x_93 x_211 c1 c4 x_252 programs_253 x_254 = some r) : Run D σ (R104 r) (.nrm [.bk 3, .sq A104_17, .lp A104_7, .bk 2, .bk 1, .sq A104_18, .lp A104_1, .bk 0, .sq A104_19]) s := by
  unfold s_l6Shortest_j1 at h
  obtain ⟨h1, h2, h4, h5, h6, h7, h8, h9, h10⟩ := hs
  refine .nbk (.nsq (rg (gm h10 fun h43 => g1 43 (ji (w64 (x_211 + 1))) h43 fun h44 => ?_)))
  refine gm h44 fun h10 => gq (.nlp ?_)
  exact Hc4 x_252 programs_253 x_254 (w64 (x_211 + 1)) _ ⟨h1, h2, h4, h5, h6, h7, h8, h9, h10⟩ h
def s_l6Shortest_j2 (F : Nat) (x_2 : Int) (x_1 : (Int × (List (Int × Int)))) (x_208 : (List ((List Int) × (List Int)))) (programs_209 : (List (NL Int))) (x_210 : (List Bool)) (x_93 : Int) (x_211 : Int) (c1 : (List ((List Int) × (List Int))) → (List (NL Int)) → (List Bool) → Int → Option ((List Int) × Bool)) (c4 : (List ((List Int) × (List Int))) → (List (NL Int)) → (List Bool) → Int → Option ((List Int) × Bool)) (x_241 : Bool) : Option ((List Int) × Bool) :=
  bif x_241 then
    c4 x_208 programs_209 x_210 (w64 (x_211 + 1))
  else
    (idx x_208 x_93).bind fun e_242 =>
    (s_l6Step F x_1 e_242 x_211).bind fun r_243 =>
    (s_l6Code F r_243).bind fun r_244 =>
    (idx x_210 r_244).bind fun e_245 =>
    bif (!e_245) then
      (idx x_210 r_244).bind fun e_255 =>
      (appL x_208 [r_243]).bind fun ap_256 =>
      (idx programs_209 x_93).bind fun e_257 =>
      (s_l1Own_o F e_257.list).bind fun r_258 =>
      (appL r_258.list [x_211]).bind fun ap_259 =>
      (appL programs_209 [(.of ap_259)]).bind fun ap_260 =>
      s_l6Shortest_j1 F x_2 x_1 x_93 x_211 c1 c4 ap_256 ap_260 (x_210.set r_244.toNat true)
    else
      s_l6Shortest_j1 F x_2 x_1 x_93 x_211 c1 c4 x_208 programs_209 x_210
theorem t_f104_j2 (H : H104 D σ F) (x_2 : Int) (x_1 : (Int × (List (Int × Int)))) (x_208 : (List ((List Int) × (List Int)))) (programs_209 : (List (NL Int))) (x_210 : (List Bool)) (x_93 : Int) (x_211 : Int) (c1 : (List ((List Int) × (List Int))) → (List (NL Int)) → (List Bool) → Int → Option ((List Int) × Bool)) (Hc1 : ∀ (x_90 : (List ((List Int) × (List Int)))) (programs_91 : (List (NL Int))) (x_92 : (List Bool)) (x_93 : Int) (s : Nat → V), Facts [(1, (ji x_2)), (2, (.ref (.bx 2) 0 [] (.agg [(ji x_1.1), (Enc.enc (x_1.2 : List (Int × Int)))]))), (4, (.sl .nl (Enc.shp Int) 0 [])), (5, (jb false)), (6, (encO (.at 6 []) (.of (x_90 : List ((List Int) × (List Int)))))), (7, (encN 7 [] (.of (programs_91 : List (NL Int)) : NL (NL Int)))), (8, (encO (.at 8 []) (.of (x_92 : List Bool)))), (9, (ji x_93))] s → c1 x_90 programs_91 x_92 x_93 = some r → Run D σ (R104 r) (.run A104_1 [.lp A104_1, .bk 0, .sq A104_19]) s) (c4 : (List ((List Int) × (List Int))) → (List (NL Int)) → (List Bool) → Int → Option ((List Int) × Bool)) (Hc4 : ∀ (x_208 : (List ((List Int) × (List Int)))) (programs_209 : (List (NL Int))) (x_210 : (List Bool)) (x_211 : Int) (s : Nat → V), Facts [(1, (ji x_2)), (2, (.ref (.bx 2) 0 [] (.agg [(ji x_1.1), (Enc.enc (x_1.2 : List (Int × Int)))]))), (4, (.sl .nl (Enc.shp Int) 0 [])), (5, (jb false)), (6, (encO (.at 6 []) (.of (x_208 : List ((List Int) × (List Int)))))), (7, (encN 7 [] (.of (programs_209 : List (NL Int)) : NL (NL Int)))), (8, (encO (.at 8 []) (.of (x_210 : List Bool)))), (9, (ji x_93)), (10, (ji x_211))] s → c4 x_208 programs_209 x_210 x_211 = some r → Run D σ (R104 r) (.run A104_7 [.lp A104_7, .bk 2, .bk 1, .sq A104_18, .lp A104_1, .bk 0, .sq A104_19]) s) (x_241 : Bool) (s : Nat → V) (hs : Facts [(1, (ji x_2)), (2, (.ref (.bx 2) 0 [] (.agg [(ji x_1.1), (Enc.enc (x_1.2 : List (Int × Int)))]))), (4, (.sl .nl (Enc.shp Int) 0 [])), (5, (jb false)), (6, (encO (.at 6 []) (.of (x_208 : List ((List Int) × (List Int)))))), (7, (encN 7 [] (.of (programs_209 : List (NL Int)) : NL (NL Int)))), (8, (encO (.at 8 []) (.of (x_210 : List Bool)))), (9, (ji x_93)), (10, (ji x_211)), (66, (jb x_241))] s) (h : s_l6Shortest_j2 F x_2 x_1 x_208 programs_209 x_210 x_93 x_211 c1 c4 x_241 = some r) : Run D σ (R104 r) (.nrm [.sq A104_10, .sq A104_11, .bk 3, .sq A104_17, .lp A104_7, .bk 2, .bk 1, .sq A104_18, .lp A104_1, .bk 0, .sq A104_19]) s := by
  unfold s_l6Shortest_j2 at h
  obtain ⟨h1, h2, h4, h5, h6, h7, h8, h9, h10, h66⟩ := hs
  refine .nsq (run_cond (t := x_241) h66 h (fun h => ?_) (fun h => ?_))
  · refine .exit (.esq (.ebk (.nsq (rg (gm h10 fun h43 => g1 43 (ji (w64 (x_211 + 1))) h43 fun h44 => ?_)))))
    refine gm h44 fun h10 => gq (.nlp ?_)
    exact Hc4 x_208 programs_209 x_210 (w64 (x_211 + 1)) _ ⟨h1, h2, h4, h5, h6, h7, h8, h9, h10⟩ h
  refine .skip (.nsq (.seq (run_reg ?_)))
  refine e_clr ?_
  refine ez [(1, _), (2, _), (4, _), (5, _), (6, _), (7, _), (8, _), (9, _), (10, _), (11, _)] ⟨(keep_clear (pk := [11]) h1 rfl mi), (keep_clear (pk := [11]) h2 rfl (map_bx rfl (map_agg (maps_cons mi (maps_cons me maps_nil))))), (keep_clear (pk := [11]) h4 rfl rfl), (keep_clear (pk := [11]) h5 rfl mb), (keep_clear (pk := [11]) h6 rfl (map_encO (r := 6) (p := []) rfl rfl)), (keep_clear (pk := [11]) h7 rfl (map_encN (r := 7) (p := []) rfl (fun _ => rfl) rfl)), (keep_clear (pk := [11]) h8 rfl (map_encO (r := 8) (p := []) rfl rfl)), (keep_clear (pk := [11]) h9 rfl mi), (keep_clear (pk := [11]) h10 rfl mi), (gone_clear (pk := [11]) (t := 11) rfl)⟩ ?_
  rintro s ⟨h1, h2, h4, h5, h6, h7, h8, h9, h10, h11⟩
  refine g1 2 (.agg [(ji x_1.1), (Enc.enc (x_1.2 : List (Int × Int)))]) h2 fun h67 => ?_
  refine gm h6 fun h68 => gm h9 fun h69 => ?_
  obtain ⟨e_242, E_e_242, h⟩ := bind_some h
  refine gv (.ref (.at 6 []) x_93.toNat [] (.agg [(eL e_242.1), (eL e_242.2)])) (ev_idxO (o := (.of x_208)) h68 h69 E_e_242 rfl) fun h70 => ?_
  refine g1 70 (.agg [(eL e_242.1), (eL e_242.2)]) h70 fun h71 => ?_
  refine gm h10 fun h72 => ?_
  obtain ⟨r_243, E_r_243, h⟩ := bind_some h
  refine g_call (m := 0) (al := true) (r := (Enc.enc (r_243 : ((List Int) × (List Int))))) [Enc.enc (x_1 : (Int × (List (Int × Int)))), Enc.enc (e_242 : ((List Int) × (List Int))), Enc.enc (x_211 : Int)] (ta_cons (v := (.agg [(ji x_1.1), (Enc.enc (x_1.2 : List (Int × Int)))])) h67 rfl (Enc.erase_enc (x_1 : (Int × (List (Int × Int))))) (ta_cons (v := (.agg [(eL e_242.1), (eL e_242.2)])) h71 rfl (Enc.erase_enc (e_242 : ((List Int) × (List Int)))) (ta_cons (v := (ji x_211)) h72 rfl rfl ta_nil))) (H.c156 _ _ _ _ E_r_243) H.g156 (hal_of (ht_cons (v := (.agg [(ji x_1.1), (Enc.enc (x_1.2 : List (Int × Int)))])) h67 rfl rfl (ht_cons (v := (.agg [(eL e_242.1), (eL e_242.2)])) h71 rfl rfl (ht_cons (v := (ji x_211)) h72 rfl rfl ht_nil)))) rfl rfl rfl ?_
  refine g_alloc h11 ?_
  refine g_store (.agg [(eL r_243.1), (eL r_243.2)]) (rd_of rfl rfl) (rd_of rfl rfl) (by refine ⟨by decide, by decide, rfl, rfl, rfl, ?_⟩; first | rfl | simp [V.toks, V.tokss, Enc.toks_enc]) ?_
  refine gz [(1, (ji x_2)), (2, (.ref (.bx 2) 0 [] (.agg [(ji x_1.1), (Enc.enc (x_1.2 : List (Int × Int)))]))), (4, (.sl .nl (Enc.shp Int) 0 [])), (5, (jb false)), (6, (encO (.at 6 []) (.of (x_208 : List ((List Int) × (List Int)))))), (7, (encN 7 [] (.of (programs_209 : List (NL Int)) : NL (NL Int)))), (8, (encO (.at 8 []) (.of (x_210 : List Bool)))), (9, (ji x_93)), (10, (ji x_211)), (11, (.ref (.bx 11) 0 [] (.agg [(eL r_243.1), (eL r_243.2)])))] ⟨(keep_mut h1 rfl), (keep_mut h2 (mut_ref_ne rfl rfl (mut_agg (muts_cons rfl (muts_cons (Enc.mut_enc _ _ _ _ (x_1.2 : List (Int × Int))) rfl))))), (keep_mut h4 rfl), (keep_mut h5 rfl), (keep_mut h6 (mut_own_ne rfl rfl)), (keep_mut h7 (mut_N_ne rfl (fun _ => rfl) rfl)), (keep_mut h8 (mut_own_ne rfl rfl)), (keep_mut h9 rfl), (keep_mut h10 rfl), (keep_mut rfl rfl)⟩ ?_
  rintro s ⟨h1, h2, h4, h5, h6, h7, h8, h9, h10, h11⟩
  refine .nsq (.seq (rg (g1 11 (.agg [(eL r_243.1), (eL r_243.2)]) h11 fun h74 => ?_)))
  obtain ⟨r_244, E_r_244, h⟩ := bind_some h
  refine g_call (m := 0) (al := false) (r := (Enc.enc (r_244 : Int))) [Enc.enc (r_243 : ((List Int) × (List Int)))] (ta_cons (v := (.agg [(eL r_243.1), (eL r_243.2)])) h74 rfl (Enc.erase_enc (r_243 : ((List Int) × (List Int)))) ta_nil) (H.c158 _ _ E_r_244) H.g158 rfl rfl rfl rfl ?_
  refine gm (rfl : (_ : V) = (ji r_244)) fun h12 => ?_
  refine gq (.nsq (.seq (rg (gm h8 fun h76 => gm h12 fun h77 => ?_))))
  obtain ⟨e_245, E_e_245, h⟩ := bind_some h
  refine gv (.ref (.at 8 []) r_244.toNat [] (jb e_245)) (ev_idxO (o := (.of x_210)) h76 h77 E_e_245 rfl) fun h78 => ?_
  refine g1 78 (jb e_245) h78 fun h79 => ?_
  refine g1 79 (jb (!e_245)) h79 fun h80 => ?_
  refine gq (.nsq (run_cond (t := (!e_245)) h80 h (fun h => ?_) (fun h => ?_)))
  · refine .seq (rg (gm h8 fun h81 => gm h12 fun h82 => ?_))
    obtain ⟨e_255, E_e_255, h⟩ := bind_some h
    refine gv (.ref (.at 8 []) r_244.toNat [] (jb e_255)) (ev_idxO (o := (.of x_210)) h81 h82 E_e_255 rfl) fun h83 => ?_
    refine g_store (jb true) (rd_of h83 rfl) (rd_of rfl rfl) (by refine ⟨by decide, by decide, rfl, rfl, rfl, ?_⟩; first | rfl | simp [V.toks, V.tokss, Enc.toks_enc]) ?_
    refine gz [(1, (ji x_2)), (2, (.ref (.bx 2) 0 [] (.agg [(ji x_1.1), (Enc.enc (x_1.2 : List (Int × Int)))]))), (4, (.sl .nl (Enc.shp Int) 0 [])), (5, (jb false)), (6, (encO (.at 6 []) (.of (x_208 : List ((List Int) × (List Int)))))), (7, (encN 7 [] (.of (programs_209 : List (NL Int)) : NL (NL Int)))), (8, _), (9, (ji x_93)), (10, (ji x_211)), (11, (.ref (.bx 11) 0 [] (.agg [(eL r_243.1), (eL r_243.2)])))] ⟨(keep_mut h1 rfl), (keep_mut h2 (mut_ref_ne rfl rfl (mut_agg (muts_cons rfl (muts_cons (Enc.mut_enc _ _ _ _ (x_1.2 : List (Int × Int))) rfl))))), (keep_mut h4 rfl), (keep_mut h5 rfl), (keep_mut h6 (mut_own_ne rfl rfl)), (keep_mut h7 (mut_N_ne rfl (fun _ => rfl) rfl)), (keep_mut h8 mut_own), (keep_mut h9 rfl), (keep_mut h10 rfl), (keep_mut h11 (mut_ref_ne rfl rfl (mut_agg (muts_cons (Enc.mut_enc _ _ _ _ (r_243.1 : List Int)) (muts_cons (Enc.mut_enc _ _ _ _ (r_243.2 : List Int)) rfl)))))⟩ ?_
    rintro s ⟨h1, h2, h4, h5, h6, h7, h8, h9, h10, h11⟩
    refine .nsq (.seq (run_reg ?_))
    refine e_clr ?_
    refine ez [(1, _), (2, _), (4, _), (5, _), (6, _), (7, _), (8, _), (9, _), (10, _), (11, _), (86, _), (87, _)] ⟨(keep_clear (pk := [86, 87]) h1 rfl mi), (keep_clear (pk := [86, 87]) h2 rfl (map_bx rfl (map_agg (maps_cons mi (maps_cons me maps_nil))))), (keep_clear (pk := [86, 87]) h4 rfl rfl), (keep_clear (pk := [86, 87]) h5 rfl mb), (keep_clear (pk := [86, 87]) h6 rfl (map_encO (r := 6) (p := []) rfl rfl)), (keep_clear (pk := [86, 87]) h7 rfl (map_encN (r := 7) (p := []) rfl (fun _ => rfl) rfl)), (keep_clear (pk := [86, 87]) h8 rfl (map_encO (r := 8) (p := []) rfl rfl)), (keep_clear (pk := [86, 87]) h9 rfl mi), (keep_clear (pk := [86, 87]) h10 rfl mi), (keep_clear (pk := [86, 87]) h11 rfl (map_bx rfl (map_agg (maps_cons me (maps_cons me maps_nil))))), (gone_clear (pk := [86, 87]) (t := 86) rfl), (gone_clear (pk := [86, 87]) (t := 87) rfl)⟩ ?_
    rintro s ⟨h1, h2, h4, h5, h6, h7, h8, h9, h10, h11, h86, h87⟩
    refine gm h6 fun h84 => g1 11 (.agg [(eL r_243.1), (eL r_243.2)]) h11 fun h85 => ?_
    refine g_litL [(85, (.agg [(eL r_243.1), (eL r_243.2)]))] [Enc.enc (r_243 : ((List Int) × (List Int)))] h85 rfl rfl h86 ?_
    obtain ⟨ap_256, E_ap_256, h⟩ := bind_some h
    refine g_app (q := 6) (p := []) (o := (.of (x_208 : List ((List Int) × (List Int))))) (ys := ([r_243] : List ((List Int) × (List Int)))) (t2 := (.at 86 [])) (lo2 := 0) h84 rfl rfl h87 (appN_L (o := (.of (x_208 : List ((List Int) × (List Int))))) E_ap_256 trivial) (fun s_153 ha_153 => ?_)
    refine gm (rfl : (_ : V) = (encO (.at 87 []) (.of (ap_256 : List ((List Int) × (List Int)))))) fun h6 => ?_
    refine g_end ?_
    refine e_home (r := 87) (x := 6) (v := _) h6 rfl (fun s_154 hg_154 => ?_)
    refine ez [(1, (ji x_2)), (2, (.ref (.bx 2) 0 [] (.agg [(ji x_1.1), (Enc.enc (x_1.2 : List (Int × Int)))]))), (4, (.sl .nl (Enc.shp Int) 0 [])), (5, (jb false)), (6, (encO (.at 6 []) (.of (ap_256 : List ((List Int) × (List Int)))))), (7, (encN 7 [] (.of (programs_209 : List (NL Int)) : NL (NL Int)))), (8, (encO (.at 8 []) (.of (x_210.set r_244.toNat true : List Bool)))), (9, (ji x_93)), (10, (ji x_211))] ⟨(hg_154 1 _ _ (show s_153 1 = (ji x_2) from keep_app ha_153 h1 mi) mi), (hg_154 2 _ _ (show s_153 2 = (.ref (.bx 2) 0 [] (.agg [(ji x_1.1), (Enc.enc (x_1.2 : List (Int × Int)))])) from keep_app ha_153 h2 (map_bx rfl (map_agg (maps_cons mi (maps_cons me maps_nil))))) (map_bx rfl (map_agg (maps_cons mi (maps_cons me maps_nil))))), (hg_154 4 _ (.sl .nl (Enc.shp Int) 0 []) (show s_153 4 = (.sl .nl (Enc.shp Int) 0 []) from keep_app ha_153 h4 rfl) rfl), (hg_154 5 _ _ (show s_153 5 = (jb false) from keep_app ha_153 h5 mb) mb), (hg_154 6 _ _ h6 (map_encO (r := 87) (p := []) rfl rfl)), (hg_154 7 _ _ (show s_153 7 = (encN 7 [] (.of (programs_209 : List (NL Int)) : NL (NL Int))) from keep_app ha_153 h7 (map_encN (r := 7) (p := []) rfl (fun _ => rfl) rfl)) (map_encN (r := 7) (p := []) rfl (fun _ => rfl) rfl)), (hg_154 8 _ _ (show s_153 8 = (encO (.at 8 []) (.of (x_210.set r_244.toNat true : List Bool))) from keep_app ha_153 h8 (map_encO (r := 8) (p := []) rfl rfl)) (map_encO (r := 8) (p := []) rfl rfl)), (hg_154 9 _ _ (show s_153 9 = (ji x_93) from keep_app ha_153 h9 mi) mi), (hg_154 10 _ _ (show s_153 10 = (ji x_211) from keep_app ha_153 h10 mi) mi)⟩ ?_
    rintro s ⟨h1, h2, h4, h5, h6, h7, h8, h9, h10⟩
    refine .nsq (run_reg ?_)
    refine e_clr ?_
    refine ez [(1, _), (2, _), (4, _), (5, _), (6, _), (7, _), (8, _), (9, _), (10, _), (93, _), (95, _), (96, _), (97, _), (98, _)] ⟨(keep_clear (pk := [93, 95, 96, 97, 98]) h1 rfl mi), (keep_clear (pk := [93, 95, 96, 97, 98]) h2 rfl (map_bx rfl (map_agg (maps_cons mi (maps_cons me maps_nil))))), (keep_clear (pk := [93, 95, 96, 97, 98]) h4 rfl rfl), (keep_clear (pk := [93, 95, 96, 97, 98]) h5 rfl mb), (keep_clear (pk := [93, 95, 96, 97, 98]) h6 rfl (map_encO (r := 6) (p := []) rfl rfl)), (keep_clear (pk := [93, 95, 96, 97, 98]) h7 rfl (map_encN (r := 7) (p := []) rfl (fun _ => rfl) rfl)), (keep_clear (pk := [93, 95, 96, 97, 98]) h8 rfl (map_encO (r := 8) (p := []) rfl rfl)), (keep_clear (pk := [93, 95, 96, 97, 98]) h9 rfl mi), (keep_clear (pk := [93, 95, 96, 97, 98]) h10 rfl mi), (gone_clear (pk := [93, 95, 96, 97, 98]) (t := 93) rfl), (gone_clear (pk := [93, 95, 96, 97, 98]) (t := 95) rfl), (gone_clear (pk := [93, 95, 96, 97, 98]) (t := 96) rfl), (gone_clear (pk := [93, 95, 96, 97, 98]) (t := 97) rfl), (gone_clear (pk := [93, 95, 96, 97, 98]) (t := 98) rfl)⟩ ?_
    rintro s ⟨h1, h2, h4, h5, h6, h7, h8, h9, h10, h93, h95, h96, h97, h98⟩
    refine gv (encN 7 [] (.of (programs_209 : List (NL Int)) : NL (NL Int))) (ev_mov h7 ok_encN) fun h88 => ?_
    refine gv (encN 7 [] (.of (programs_209 : List (NL Int)) : NL (NL Int))) (ev_mov h7 ok_encN) fun h89 => ?_
    refine gm h9 fun h90 => ?_
    obtain ⟨e_257, E_e_257, h⟩ := bind_some h
    refine gv (.ref (.at 7 []) x_93.toNat [] (oI 7 [x_93.toNat] e_257)) (ev_idxN (o := ((.of programs_209) : NL (NL Int))) h89 h90 E_e_257 rfl) fun h91 => ?_
    refine gv (oI 7 [x_93.toNat] e_257) (ev_loadN h91 beq_encO) fun h92 => ?_
    obtain ⟨r_258, E_r_258, h⟩ := bind_some h
    refine g_callO (m := 1) (al := false) (r := (encO .sh (r_258 : NL Int))) (v := (oI 93 [] r_258)) (kk := 1000000097) [Enc.enc (e_257.list : (List Int))] (ta_cons (v := (oI 7 [x_93.toNat] e_257)) h92 ok_encP (erase_encO (o := e_257)) ta_nil) (H.c97o _ _ E_r_258) H.g97o rfl toks_encS tag_encO ok_encP h93 ?_
    refine gm h10 fun h94 => g_litL [(94, (ji x_211))] [Enc.enc (x_211 : Int)] h94 rfl rfl h95 ?_
    obtain ⟨ap_259, E_ap_259, h⟩ := bind_some h
    refine g_app (q := 93) (p := []) (o := (r_258 : NL Int)) (ys := ([x_211] : List Int)) (t2 := (.at 95 [])) (lo2 := 0) rfl rfl rfl h96 (appN_L (o := (r_258 : NL Int)) E_ap_259 (by split <;> simp)) (fun s_156 ha_156 => ?_)
    refine g_litN (a := ((.of ap_259) : NL Int)) rfl rfl (show s_156 97 = .gone from keep_app ha_156 h97 rfl) ?_
    obtain ⟨ap_260, E_ap_260, h⟩ := bind_some h
    refine g_appN (q := 7) (p := []) (o := ((.of programs_209) : NL (NL Int))) (a := ((.of ap_259) : NL Int)) (show s_156 88 = (encN 7 [] (.of (programs_209 : List (NL Int)) : NL (NL Int))) from keep_app ha_156 h88 (map_encN (r := 7) (p := []) rfl (fun _ => rfl) rfl)) rfl rfl (show s_156 98 = .gone from keep_app ha_156 h98 rfl) E_ap_260 rfl rfl (fun s_157 ha_157 => ?_)
    refine gm (rfl : (_ : V) = (.sl (.at 98 []) .p 0 (encR (Tapp 7 [] programs_209.length 96) 0 (ap_260 : List (NL Int))))) fun h7 => ?_
    refine g_end ?_
    refine e_canApp (d := 98) (q := 7) (t := 96) (p := []) (xs := programs_209) (zs := ap_260) (a := ((.of ap_259) : NL Int)) rfl rfl E_ap_260 rfl rfl rfl (fun s_158 L_158 hv_158 hl_158 hg_158 => ?_)
    refine e_home (r := 98) (x := 7) (v := _) (by exact (show s_158 7 = (encN 98 [] (.of (ap_260 : List (NL Int)) : NL (NL Int))) from hg_158 7 _ _ h7 hv_158)) ok_encN (fun s_159 hg_159 => ?_)
    refine ez [(1, (ji x_2)), (2, (.ref (.bx 2) 0 [] (.agg [(ji x_1.1), (Enc.enc (x_1.2 : List (Int × Int)))]))), (4, (.sl .nl (Enc.shp Int) 0 [])), (5, (jb false)), (6, (encO (.at 6 []) (.of (ap_256 : List ((List Int) × (List Int)))))), (7, (encN 7 [] (.of (ap_260 : List (NL Int)) : NL (NL Int)))), (8, (encO (.at 8 []) (.of (x_210.set r_244.toNat true : List Bool)))), (9, (ji x_93)), (10, (ji x_211))] ⟨(hg_159 1 _ _ (show s_158 1 = (ji x_2) from hg_158 1 _ _ (show s_157 1 = (ji x_2) from keep_app ha_157 (show s_156 1 = (ji x_2) from keep_app ha_156 h1 mi) mi) rfl) mi), (hg_159 2 _ _ (show s_158 2 = (.ref (.bx 2) 0 [] (.agg [(ji x_1.1), (Enc.enc (x_1.2 : List (Int × Int)))])) from hg_158 2 _ _ (show s_157 2 = (.ref (.bx 2) 0 [] (.agg [(ji x_1.1), (Enc.enc (x_1.2 : List (Int × Int)))])) from keep_app ha_157 (show s_156 2 = (.ref (.bx 2) 0 [] (.agg [(ji x_1.1), (Enc.enc (x_1.2 : List (Int × Int)))])) from keep_app ha_156 h2 (map_bx rfl (map_agg (maps_cons mi (maps_cons me maps_nil))))) (map_bx rfl (map_agg (maps_cons mi (maps_cons me maps_nil))))) (map_bx (canF_bx rfl) (map_agg (maps_cons rfl (maps_cons (Enc.map_enc _ (x_1.2 : List (Int × Int))) maps_nil))))) (map_bx rfl (map_agg (maps_cons mi (maps_cons me maps_nil))))), (hg_159 4 _ (.sl .nl (Enc.shp Int) 0 []) (show s_158 4 = (.sl .nl (Enc.shp Int) 0 []) from hg_158 4 _ _ (show s_157 4 = (.sl .nl (Enc.shp Int) 0 []) from keep_app ha_157 (show s_156 4 = (.sl .nl (Enc.shp Int) 0 []) from keep_app ha_156 h4 rfl) rfl) rfl) rfl), (hg_159 5 _ _ (show s_158 5 = (jb false) from hg_158 5 _ _ (show s_157 5 = (jb false) from keep_app ha_157 (show s_156 5 = (jb false) from keep_app ha_156 h5 mb) mb) rfl) mb), (hg_159 6 _ _ (show s_158 6 = (encO (.at 6 []) (.of (ap_256 : List ((List Int) × (List Int))))) from hg_158 6 _ _ (show s_157 6 = (encO (.at 6 []) (.of (ap_256 : List ((List Int) × (List Int))))) from keep_app ha_157 (show s_156 6 = (encO (.at 6 []) (.of (ap_256 : List ((List Int) × (List Int))))) from keep_app ha_156 h6 (map_encO (r := 6) (p := []) rfl rfl)) (map_encO (r := 6) (p := []) rfl rfl)) (map_encO (r := 6) (p := []) (canF_ne hl_158 rfl rfl) rfl)) (map_encO (r := 6) (p := []) rfl rfl)), (hg_159 7 _ _ (show s_158 7 = (encN 98 [] (.of (ap_260 : List (NL Int)) : NL (NL Int))) from hg_158 7 _ _ h7 hv_158) (map_encN (r := 98) (p := []) rfl (fun _ => rfl) rfl)), (hg_159 8 _ _ (show s_158 8 = (encO (.at 8 []) (.of (x_210.set r_244.toNat true : List Bool))) from hg_158 8 _ _ (show s_157 8 = (encO (.at 8 []) (.of (x_210.set r_244.toNat true : List Bool))) from keep_app ha_157 (show s_156 8 = (encO (.at 8 []) (.of (x_210.set r_244.toNat true : List Bool))) from keep_app ha_156 h8 (map_encO (r := 8) (p := []) rfl rfl)) (map_encO (r := 8) (p := []) rfl rfl)) (map_encO (r := 8) (p := []) (canF_ne hl_158 rfl rfl) rfl)) (map_encO (r := 8) (p := []) rfl rfl)), (hg_159 9 _ _ (show s_158 9 = (ji x_93) from hg_158 9 _ _ (show s_157 9 = (ji x_93) from keep_app ha_157 (show s_156 9 = (ji x_93) from keep_app ha_156 h9 mi) mi) rfl) mi), (hg_159 10 _ _ (show s_158 10 = (ji x_211) from hg_158 10 _ _ (show s_157 10 = (ji x_211) from keep_app ha_157 (show s_156 10 = (ji x_211) from keep_app ha_156 h10 mi) mi) rfl) mi)⟩ ?_
    rintro s ⟨h1, h2, h4, h5, h6, h7, h8, h9, h10⟩
    exact t_f104_j1 H x_2 x_1 x_93 x_211 c1 Hc1 c4 Hc4 ap_256 ap_260 (x_210.set r_244.toNat true) _ ⟨h1, h2, h4, h5, h6, h7, h8, h9, h10⟩ h
  refine .skip ?_
  exact t_f104_j1 H x_2 x_1 x_93 x_211 c1 Hc1 c4 Hc4 x_208 programs_209 x_210 _ ⟨h1, h2, h4, h5, h6, h7, h8, h9, h10⟩ h
def s_l6Shortest_l1 (F : Nat) (x_2 : Int) (x_1 : (Int × (List (Int × Int)))) (x_93 : Int) (c1 : (List ((List Int) × (List Int))) → (List (NL Int)) → (List Bool) → Int → Option ((List Int) × Bool)) : Nat → (List ((List Int) × (List Int))) → (List (NL Int)) → (List Bool) → Int → Option ((List Int) × Bool)
  | 0, _, _, _, _ => none
  | k + 1, x_208, programs_209, x_210, x_211 =>
    bif decide (x_211 < x_1.1) then
      (idx x_208 x_93).bind fun e_261 =>
      (s_l6Can F x_1 e_261 x_211).bind fun r_262 =>
      bif (!r_262) then
        s_l6Shortest_j2 F x_2 x_1 x_208 programs_209 x_210 x_93 x_211 c1 (s_l6Shortest_l1 F x_2 x_1 x_93 c1 k) true
      else
        bif decide (x_211 ≥ 0) then
          (idx x_208 x_93).bind fun e_263 =>
          s_l6Shortest_j2 F x_2 x_1 x_208 programs_209 x_210 x_93 x_211 c1 (s_l6Shortest_l1 F x_2 x_1 x_93 c1 k) ((e_263.1.length : Int) == x_2)
        else
          s_l6Shortest_j2 F x_2 x_1 x_208 programs_209 x_210 x_93 x_211 c1 (s_l6Shortest_l1 F x_2 x_1 x_93 c1 k) false
    else
      c1 x_208 programs_209 x_210 (w64 (x_93 + 1))
theorem t_f104_l1 (H : H104 D σ F) (x_2 : Int) (x_1 : (Int × (List (Int × Int)))) (x_93 : Int) (c1 : (List ((List Int) × (List Int))) → (List (NL Int)) → (List Bool) → Int → Option ((List Int) × Bool)) (Hc1 : ∀ (x_90 : (List ((List Int) × (List Int)))) (programs_91 : (List (NL Int))) (x_92 : (List Bool)) (x_93 : Int) (s : Nat → V), Facts [(1, (ji x_2)), (2, (.ref (.bx 2) 0 [] (.agg [(ji x_1.1), (Enc.enc (x_1.2 : List (Int × Int)))]))), (4, (.sl .nl (Enc.shp Int) 0 [])), (5, (jb false)), (6, (encO (.at 6 []) (.of (x_90 : List ((List Int) × (List Int)))))), (7, (encN 7 [] (.of (programs_91 : List (NL Int)) : NL (NL Int)))), (8, (encO (.at 8 []) (.of (x_92 : List Bool)))), (9, (ji x_93))] s → c1 x_90 programs_91 x_92 x_93 = some r → Run D σ (R104 r) (.run A104_1 [.lp A104_1, .bk 0, .sq A104_19]) s) : ∀ (k : Nat) (x_208 : (List ((List Int) × (List Int)))) (programs_209 : (List (NL Int))) (x_210 : (List Bool)) (x_211 : Int) (s : Nat → V), Facts [(1, (ji x_2)), (2, (.ref (.bx 2) 0 [] (.agg [(ji x_1.1), (Enc.enc (x_1.2 : List (Int × Int)))]))), (4, (.sl .nl (Enc.shp Int) 0 [])), (5, (jb false)), (6, (encO (.at 6 []) (.of (x_208 : List ((List Int) × (List Int)))))), (7, (encN 7 [] (.of (programs_209 : List (NL Int)) : NL (NL Int)))), (8, (encO (.at 8 []) (.of (x_210 : List Bool)))), (9, (ji x_93)), (10, (ji x_211))] s → s_l6Shortest_l1 F x_2 x_1 x_93 c1 k x_208 programs_209 x_210 x_211 = some r → Run D σ (R104 r) (.run A104_7 [.lp A104_7, .bk 2, .bk 1, .sq A104_18, .lp A104_1, .bk 0, .sq A104_19]) s := by
  intro k
  induction k with
  | zero => intro x_208 programs_209 x_210 x_211 s _ h; exact nomatch (h : (none : Option _) = some r)
  | succ k ih =>
    intro x_208 programs_209 x_210 x_211 s hs h
    rw [s_l6Shortest_l1] at h
    obtain ⟨h1, h2, h4, h5, h6, h7, h8, h9, h10⟩ := hs
    refine .seq (.seq (rg (gm h10 fun h39 => g1 2 (.ref (.bx 2) 0 [0] (ji x_1.1)) h2 fun h40 => ?_)))
    refine g1 40 (ji x_1.1) h40 fun h41 => ?_
    refine g2 39 41 (jb (decide (x_211 < x_1.1))) h39 h41 fun h42 => ?_
    refine gq (.nsq (run_cond (t := decide (x_211 < x_1.1)) h42 h (fun h => ?_) (fun h => ?_)))
    · refine .skip (.nsq (.seq (.block (.seq (.seq (rg (g1 2 (.agg [(ji x_1.1), (Enc.enc (x_1.2 : List (Int × Int)))]) h2 fun h45 => ?_)))))))
      refine gm h6 fun h46 => gm h9 fun h47 => ?_
      obtain ⟨e_261, E_e_261, h⟩ := bind_some h
      refine gv (.ref (.at 6 []) x_93.toNat [] (.agg [(eL e_261.1), (eL e_261.2)])) (ev_idxO (o := (.of x_208)) h46 h47 E_e_261 rfl) fun h48 => ?_
      refine g1 48 (.agg [(eL e_261.1), (eL e_261.2)]) h48 fun h49 => ?_
      refine gm h10 fun h50 => ?_
      obtain ⟨r_262, E_r_262, h⟩ := bind_some h
      refine g_call (m := 0) (al := false) (r := (Enc.enc (r_262 : Bool))) [Enc.enc (x_1 : (Int × (List (Int × Int)))), Enc.enc (e_261 : ((List Int) × (List Int))), Enc.enc (x_211 : Int)] (ta_cons (v := (.agg [(ji x_1.1), (Enc.enc (x_1.2 : List (Int × Int)))])) h45 rfl (Enc.erase_enc (x_1 : (Int × (List (Int × Int))))) (ta_cons (v := (.agg [(eL e_261.1), (eL e_261.2)])) h49 rfl (Enc.erase_enc (e_261 : ((List Int) × (List Int)))) (ta_cons (v := (ji x_211)) h50 rfl rfl ta_nil))) (H.c155 _ _ _ _ E_r_262) H.g155 rfl rfl rfl rfl ?_
      refine g1 51 (jb (!r_262)) (rfl : (_ : V) = (jb r_262)) fun h52 => ?_
      refine gm h52 fun h53 => split_on (c := (!r_262)) h (fun hg9 h => ?_) (fun hg9 h => ?_)
      · refine g_no (h53.trans (congrArg V.bool hg9)) ?_
        refine g_no (h53.trans (congrArg V.bool hg9)) ?_
        refine g_no (h53.trans (congrArg V.bool hg9)) ?_
        refine g_skip rfl ?_
        refine g_skip rfl ?_
        refine g_skip rfl ?_
        refine g_skip rfl ?_
        refine g_skip rfl ?_
        refine g_skip rfl ?_
        refine g_skip rfl ?_
        refine g_skip rfl ?_
        refine g_no (h53.trans (congrArg V.bool hg9)) ?_
        refine g2 53 65 (jb true) (h53.trans (congrArg V.bool hg9)) (rfl : (_ : V) = (.tup [])) fun h66 => ?_
        refine gz [(1, _), (2, _), (4, _), (5, _), (6, _), (7, _), (8, _), (9, _), (10, _), (66, _)] ⟨h1, h2, h4, h5, h6, h7, h8, h9, h10, h66⟩ ?_
        rintro s ⟨h1, h2, h4, h5, h6, h7, h8, h9, h10, h66⟩
        exact t_f104_j2 H x_2 x_1 x_208 programs_209 x_210 x_93 x_211 c1 Hc1 (s_l6Shortest_l1 F x_2 x_1 x_93 c1 k) ih true _ ⟨h1, h2, h4, h5, h6, h7, h8, h9, h10, h66⟩ h
      refine g_yes (h53.trans (congrArg V.bool hg9)) (gm h10 fun h54 => ?_)
      refine g_yes (h53.trans (congrArg V.bool hg9)) (g1 54 (jb (decide (x_211 ≥ 0))) h54 fun h55 => ?_)
      refine g_yes (h53.trans (congrArg V.bool hg9)) (gm h55 fun h56 => ?_)
      refine split_on (c := decide (x_211 ≥ 0)) h (fun hg12 h => ?_) (fun hg12 h => ?_)
      · refine g_yes (h56.trans (congrArg V.bool hg12)) (gm h6 fun h57 => ?_)
        refine g_yes (h56.trans (congrArg V.bool hg12)) (gm h9 fun h58 => ?_)
        obtain ⟨e_263, E_e_263, h⟩ := bind_some h
        refine g_yes (h56.trans (congrArg V.bool hg12)) (gv (.ref (.at 6 []) x_93.toNat [] (.agg [(eL e_263.1), (eL e_263.2)])) (ev_idxO (o := (.of x_208)) h57 h58 E_e_263 rfl) fun h59 => ?_)
        refine g_yes (h56.trans (congrArg V.bool hg12)) (g1 59 (.ref (.at 6 []) x_93.toNat [0] (eL e_263.1)) h59 fun h60 => ?_)
        refine g_yes (h56.trans (congrArg V.bool hg12)) (g1 60 (eL e_263.1) h60 fun h61 => ?_)
        refine g_yes (h56.trans (congrArg V.bool hg12)) (gv (ji (e_263.1.length : Int)) (ev_len (xs := e_263.1) h61) fun h62 => ?_)
        refine g_yes (h56.trans (congrArg V.bool hg12)) (gm h1 fun h63 => ?_)
        refine g_yes (h56.trans (congrArg V.bool hg12)) (g2 62 63 (jb ((e_263.1.length : Int) == x_2)) h62 h63 fun h64 => ?_)
        refine g_yes (h53.trans (congrArg V.bool hg9)) (g2 56 64 (jb ((e_263.1.length : Int) == x_2)) (h56.trans (congrArg V.bool hg12)) h64 fun h65 => ?_)
        refine g2 53 65 (jb ((e_263.1.length : Int) == x_2)) (h53.trans (congrArg V.bool hg9)) h65 fun h66 => ?_
        refine gz [(1, _), (2, _), (4, _), (5, _), (6, _), (7, _), (8, _), (9, _), (10, _), (66, _)] ⟨h1, h2, h4, h5, h6, h7, h8, h9, h10, h66⟩ ?_
        rintro s ⟨h1, h2, h4, h5, h6, h7, h8, h9, h10, h66⟩
        exact t_f104_j2 H x_2 x_1 x_208 programs_209 x_210 x_93 x_211 c1 Hc1 (s_l6Shortest_l1 F x_2 x_1 x_93 c1 k) ih ((e_263.1.length : Int) == x_2) _ ⟨h1, h2, h4, h5, h6, h7, h8, h9, h10, h66⟩ h
      refine g_no (h56.trans (congrArg V.bool hg12)) ?_
      refine g_no (h56.trans (congrArg V.bool hg12)) ?_
      refine g_no (h56.trans (congrArg V.bool hg12)) ?_
      refine g_no (h56.trans (congrArg V.bool hg12)) ?_
      refine g_no (h56.trans (congrArg V.bool hg12)) ?_
      refine g_no (h56.trans (congrArg V.bool hg12)) ?_
      refine g_no (h56.trans (congrArg V.bool hg12)) ?_
      refine g_no (h56.trans (congrArg V.bool hg12)) ?_
      refine g_yes (h53.trans (congrArg V.bool hg9)) (g2 56 64 (jb false) (h56.trans (congrArg V.bool hg12)) (rfl : (_ : V) = (.tup [])) fun h65 => ?_)
      refine g2 53 65 (jb false) (h53.trans (congrArg V.bool hg9)) h65 fun h66 => ?_
      refine gz [(1, _), (2, _), (4, _), (5, _), (6, _), (7, _), (8, _), (9, _), (10, _), (66, _)] ⟨h1, h2, h4, h5, h6, h7, h8, h9, h10, h66⟩ ?_
      rintro s ⟨h1, h2, h4, h5, h6, h7, h8, h9, h10, h66⟩
      exact t_f104_j2 H x_2 x_1 x_208 programs_209 x_210 x_93 x_211 c1 Hc1 (s_l6Shortest_l1 F x_2 x_1 x_93 c1 k) ih false _ ⟨h1, h2, h4, h5, h6, h7, h8, h9, h10, h66⟩ h
    refine .exit (.esq (.elp (.ebk (.nbk (.nsq (rg (gm h9 fun h23 => g1 23 (ji (w64 (x_93 + 1))) h23 fun h24 => ?_)))))))
    refine gm h24 fun h9 => gq (.nlp ?_)
    exact Hc1 x_208 programs_209 x_210 (w64 (x_93 + 1)) _ ⟨h1, h2, h4, h5, h6, h7, h8, h9⟩ h
def s_l6Shortest_l2 (F : Nat) (x_2 : Int) (x_1 : (Int × (List (Int × Int))))  : Nat → (List ((List Int) × (List Int))) → (List (NL Int)) → (List Bool) → Int → Option ((List Int) × Bool)
  | 0, _, _, _, _ => none
  | k + 1, x_90, programs_91, x_92, x_93 =>
    bif decide (x_93 < (x_90.length : Int)) then
      (idx x_90 x_93).bind fun e_179 =>
      bif ((e_179.2.length : Int) == 0) then
        (idx programs_91 x_93).bind fun e_181 =>
        some (e_181.list, true)
      else
        s_l6Shortest_l1 F x_2 x_1 x_93 (s_l6Shortest_l2 F x_2 x_1 k) F x_90 programs_91 x_92 (w64 (0 - x_1.1))
    else
      some ([], false)
theorem t_f104_l2 (H : H104 D σ F) (x_2 : Int) (x_1 : (Int × (List (Int × Int))))  : ∀ (k : Nat) (x_90 : (List ((List Int) × (List Int)))) (programs_91 : (List (NL Int))) (x_92 : (List Bool)) (x_93 : Int) (s : Nat → V), Facts [(1, (ji x_2)), (2, (.ref (.bx 2) 0 [] (.agg [(ji x_1.1), (Enc.enc (x_1.2 : List (Int × Int)))]))), (4, (.sl .nl (Enc.shp Int) 0 [])), (5, (jb false)), (6, (encO (.at 6 []) (.of (x_90 : List ((List Int) × (List Int)))))), (7, (encN 7 [] (.of (programs_91 : List (NL Int)) : NL (NL Int)))), (8, (encO (.at 8 []) (.of (x_92 : List Bool)))), (9, (ji x_93))] s → s_l6Shortest_l2 F x_2 x_1 k x_90 programs_91 x_92 x_93 = some r → Run D σ (R104 r) (.run A104_1 [.lp A104_1, .bk 0, .sq A104_19]) s := by
  intro k
  induction k with
  | zero => intro x_90 programs_91 x_92 x_93 s _ h; exact nomatch (h : (none : Option _) = some r)
  | succ k ih =>
    intro x_90 programs_91 x_92 x_93 s hs h
    rw [s_l6Shortest_l2] at h
    obtain ⟨h1, h2, h4, h5, h6, h7, h8, h9⟩ := hs
    refine .seq (.seq (rg (gm h9 fun h19 => gm h6 fun h20 => gv (ji (x_90.length : Int)) (ev_lenO (o := .of x_90) h20) fun h21 => ?_)))
    refine g2 19 21 (jb (decide (x_93 < (x_90.length : Int)))) h19 h21 fun h22 => ?_
    refine gq (.nsq (run_cond (t := decide (x_93 < (x_90.length : Int))) h22 h (fun h => ?_) (fun h => ?_)))
    · refine .skip (.nsq (.seq (.block (.seq (.seq (rg (gm h6 fun h25 => gm h9 fun h26 => ?_)))))))
      obtain ⟨e_179, E_e_179, h⟩ := bind_some h
      refine gv (.ref (.at 6 []) x_93.toNat [] (.agg [(eL e_179.1), (eL e_179.2)])) (ev_idxO (o := (.of x_90)) h25 h26 E_e_179 rfl) fun h27 => ?_
      refine g1 27 (.ref (.at 6 []) x_93.toNat [1] (eL e_179.2)) h27 fun h28 => ?_
      refine g1 28 (eL e_179.2) h28 fun h29 => ?_
      refine gv (ji (e_179.2.length : Int)) (ev_len (xs := e_179.2) h29) fun h30 => ?_
      refine g1 30 (jb ((e_179.2.length : Int) == 0)) h30 fun h31 => ?_
      refine gq (.nsq (run_cond (t := ((e_179.2.length : Int) == 0)) h31 h (fun h => ?_) (fun h => ?_)))
      · refine .seq (rg (gv (encN 7 [] (.of (programs_91 : List (NL Int)) : NL (NL Int))) (ev_mov h7 ok_encN) fun h32 => ?_))
        refine gm h9 fun h33 => ?_
        obtain ⟨e_181, E_e_181, h⟩ := bind_some h
        refine gv (.ref (.at 7 []) x_93.toNat [] (oI 7 [x_93.toNat] e_181)) (ev_idxN (o := ((.of programs_91) : NL (NL Int))) h32 h33 E_e_181 rfl) fun h34 => ?_
        refine gv (oI 7 [x_93.toNat] e_181) (ev_loadN h34 beq_encO) fun h35 => ?_
        refine gv (oI 7 [x_93.toNat] e_181) (ev_mov h35 ok_encO) fun h4 => ?_
        refine g0 (jb true) fun h5 => ?_
        refine gq (.nsq (.ret ?_))
        have hr := Option.some.inj h
        subst hr
        exact rrB (res_tmp h4) (res_tmp h5) (fin_retF (fin_tup (fins_cons (fin_own (o := e_181)) (fins_cons (fin_enc (x := (true : Bool))) fins_nil))) (mine_tup (mines_cons (mine_own rfl) (mines_cons rfl mines_nil))))
      refine .skip (.nsq (.seq (rg (g1 2 (.ref (.bx 2) 0 [0] (ji x_1.1)) h2 fun h36 => ?_))))
      refine g1 36 (ji x_1.1) h36 fun h37 => ?_
      refine g1 37 (ji (w64 (0 - x_1.1))) h37 fun h38 => ?_
      refine gm h38 fun h10 => gq (.nsq (.block (.loop ?_)))
      exact t_f104_l1 H x_2 x_1 x_93 (s_l6Shortest_l2 F x_2 x_1 k) ih F x_90 programs_91 x_92 (w64 (0 - x_1.1)) _ ⟨h1, h2, h4, h5, h6, h7, h8, h9, h10⟩ h
    refine .exit (.esq (.elp (.ebk (.nsq (.seq (run_reg ?_))))))
    refine e_clr ?_
    refine ez [(4, _), (5, _), (99, _)] ⟨(keep_clear (pk := [99]) h4 rfl rfl), (keep_clear (pk := [99]) h5 rfl mb), (gone_clear (pk := [99]) (t := 99) rfl)⟩ ?_
    rintro s ⟨h4, h5, h99⟩
    refine g_litL [] [] trivial rfl rfl h99 ?_
    refine gm (rfl : (_ : V) = (oI 99 [] (.of []))) fun h4 => ?_
    refine g0 (jb false) fun h5 => ?_
    refine g_end ?_
    refine e_home (r := 99) (x := 4) (v := _) h4 rfl (fun s_161 hg_161 => ?_)
    refine ez [(4, (oI 4 [] (.of []))), (5, (jb false))] ⟨(hg_161 4 _ _ h4 (map_encO (r := 99) (p := []) rfl rfl)), (hg_161 5 _ _ h5 mb)⟩ ?_
    rintro s ⟨h4, h5⟩
    refine .nsq (.ret ?_)
    have hr := Option.some.inj h
    subst hr
    exact rrB (res_tmp h4) (res_tmp h5) (fin_retF (fin_tup (fins_cons (fin_own (o := .of [])) (fins_cons (fin_enc (x := (false : Bool))) fins_nil))) (mine_tup (mines_cons (mine_own rfl) (mines_cons rfl mines_nil))))
def s_l6Shortest (F : Nat) (x_1 : (Int × (List (Int × Int)))) (x_2 : Int) : Option ((List Int) × Bool) :=
  (s_l6Begin F x_1).bind fun r_3 =>
  (mkN 65536 false).bind fun mk_4 =>
  s_l6Shortest_l2 F x_2 x_1 F [r_3] ([(.of [])]) mk_4 0
theorem t104 (H : H104 D σ F) (x_1 : (Int × (List (Int × Int)))) (x_2 : Int) (s : Nat → V) (hs : Facts [(0, (.agg [(ji x_1.1), (Enc.enc (x_1.2 : List (Int × Int)))])), (1, (ji x_2))] s) (h : s_l6Shortest F x_1 x_2 = some r) : Run D σ (R104 r) (.run A104 []) s := by
  unfold s_l6Shortest at h
  obtain ⟨h0, h1⟩ := hs
  refine .seq (run_reg ?_)
  refine e_clr ?_
  refine ez [(0, _), (1, _), (2, _)] ⟨(keep_clear (pk := [2]) h0 rfl (map_agg (maps_cons mi (maps_cons me maps_nil)))), (keep_clear (pk := [2]) h1 rfl mi), (gone_clear (pk := [2]) (t := 2) rfl)⟩ ?_
  rintro s ⟨h0, h1, h2⟩
  refine g_box (.agg [(ji x_1.1), (Enc.enc (x_1.2 : List (Int × Int)))]) (rd_of h0 rfl) h2 rfl ?_
  refine g0 (.sl .nl (Enc.shp Int) 0 []) fun h4 => ?_
  refine g0 (jb false) fun h5 => ?_
  refine gq (.nsq (.seq (run_reg ?_)))
  refine e_clr ?_
  refine ez [(1, _), (2, _), (4, _), (5, _), (15, _), (16, _), (17, _), (18, _)] ⟨(keep_clear (pk := [15, 16, 17, 18]) h1 rfl mi), (keep_clear (pk := [15, 16, 17, 18]) rfl rfl (map_bx rfl (map_agg (maps_cons mi (maps_cons me maps_nil))))), (keep_clear (pk := [15, 16, 17, 18]) h4 rfl rfl), (keep_clear (pk := [15, 16, 17, 18]) h5 rfl mb), (gone_clear (pk := [15, 16, 17, 18]) (t := 15) rfl), (gone_clear (pk := [15, 16, 17, 18]) (t := 16) rfl), (gone_clear (pk := [15, 16, 17, 18]) (t := 17) rfl), (gone_clear (pk := [15, 16, 17, 18]) (t := 18) rfl)⟩ ?_
  rintro s ⟨h1, h2, h4, h5, h15, h16, h17, h18⟩
  refine g1 2 (.agg [(ji x_1.1), (Enc.enc (x_1.2 : List (Int × Int)))]) h2 fun h13 => ?_
  obtain ⟨r_3, E_r_3, h⟩ := bind_some h
  refine g_call (m := 0) (al := true) (r := (Enc.enc (r_3 : ((List Int) × (List Int))))) [Enc.enc (x_1 : (Int × (List (Int × Int))))] (ta_cons (v := (.agg [(ji x_1.1), (Enc.enc (x_1.2 : List (Int × Int)))])) h13 rfl (Enc.erase_enc (x_1 : (Int × (List (Int × Int))))) ta_nil) (H.c154 _ _ E_r_3) H.g154 (hal_of (ht_cons (v := (.agg [(ji x_1.1), (Enc.enc (x_1.2 : List (Int × Int)))])) h13 rfl rfl ht_nil)) rfl rfl rfl ?_
  refine g_litL [(14, (.agg [(eL r_3.1), (eL r_3.2)]))] [Enc.enc (r_3 : ((List Int) × (List Int)))] rfl rfl rfl h15 ?_
  refine g_litL [] [] trivial rfl rfl h16 ?_
  refine g_litN (a := ((.of []) : NL Int)) rfl rfl h17 ?_
  obtain ⟨mk_4, E_mk_4, h⟩ := bind_some h
  refine g_mk (false : Bool) rfl rfl h18 E_mk_4 ?_
  refine gm (rfl : (_ : V) = (encO (.at 15 []) (.of ([r_3] : List ((List Int) × (List Int)))))) fun h6 => ?_
  refine gm (rfl : (_ : V) = (.sl (.at 17 []) .p 0 [encO (.at 16 []) ((.of []) : NL Int)])) fun h7 => ?_
  refine gm (rfl : (_ : V) = (encO (.at 18 []) (.of (mk_4 : List Bool)))) fun h8 => ?_
  refine g_end ?_
  refine e_canSet (x := 17) (t := 16) (i := 0) (os := ([(.of [])] : List (NL Int))) rfl rfl rfl (fun s_3 L_3 hv_3 hl_3 hg_3 => ?_)
  refine e_home (r := 15) (x := 6) (v := _) (by exact (show s_3 6 = (encO (.at 15 []) (.of ([r_3] : List ((List Int) × (List Int))))) from hg_3 6 _ _ h6 (map_encO (r := 15) (p := []) (canF_ne hl_3 rfl rfl) rfl))) rfl (fun s_4 hg_4 => ?_)
  refine e_home (r := 17) (x := 7) (v := _) (by exact (hg_4 7 _ _ (show s_3 7 = (encN 17 [] (.of ([(.of [])] : List (NL Int)) : NL (NL Int))) from hg_3 7 _ _ h7 hv_3) (map_encN (r := 17) (p := []) rfl (fun _ => rfl) rfl))) ok_encN (fun s_5 hg_5 => ?_)
  refine e_home (r := 18) (x := 8) (v := _) (by exact (hg_5 8 _ _ (hg_4 8 _ _ (show s_3 8 = (encO (.at 18 []) (.of (mk_4 : List Bool))) from hg_3 8 _ _ h8 (map_encO (r := 18) (p := []) (canF_ne hl_3 rfl rfl) rfl)) (map_encO (r := 18) (p := []) rfl rfl)) (map_encO (r := 18) (p := []) rfl rfl))) rfl (fun s_6 hg_6 => ?_)
  refine ez [(1, (ji x_2)), (2, (.ref (.bx 2) 0 [] (.agg [(ji x_1.1), (Enc.enc (x_1.2 : List (Int × Int)))]))), (4, (.sl .nl (Enc.shp Int) 0 [])), (5, (jb false)), (6, (encO (.at 6 []) (.of ([r_3] : List ((List Int) × (List Int)))))), (7, (encN 7 [] (.of ([(.of [])] : List (NL Int)) : NL (NL Int)))), (8, (encO (.at 8 []) (.of (mk_4 : List Bool))))] ⟨(hg_6 1 _ _ (hg_5 1 _ _ (hg_4 1 _ _ (show s_3 1 = (ji x_2) from hg_3 1 _ _ h1 rfl) mi) mi) mi), (hg_6 2 _ _ (hg_5 2 _ _ (hg_4 2 _ _ (show s_3 2 = (.ref (.bx 2) 0 [] (.agg [(ji x_1.1), (Enc.enc (x_1.2 : List (Int × Int)))])) from hg_3 2 _ _ h2 (map_bx (canF_bx rfl) (map_agg (maps_cons rfl (maps_cons (Enc.map_enc _ (x_1.2 : List (Int × Int))) maps_nil))))) (map_bx rfl (map_agg (maps_cons mi (maps_cons me maps_nil))))) (map_bx rfl (map_agg (maps_cons mi (maps_cons me maps_nil))))) (map_bx rfl (map_agg (maps_cons mi (maps_cons me maps_nil))))), (hg_6 4 _ (.sl .nl (Enc.shp Int) 0 []) (hg_5 4 _ (.sl .nl (Enc.shp Int) 0 []) (hg_4 4 _ (.sl .nl (Enc.shp Int) 0 []) (show s_3 4 = (.sl .nl (Enc.shp Int) 0 []) from hg_3 4 _ _ h4 rfl) rfl) rfl) rfl), (hg_6 5 _ _ (hg_5 5 _ _ (hg_4 5 _ _ (show s_3 5 = (jb false) from hg_3 5 _ _ h5 rfl) mb) mb) mb), (hg_6 6 _ _ (hg_5 6 _ _ (hg_4 6 _ _ (show s_3 6 = (encO (.at 15 []) (.of ([r_3] : List ((List Int) × (List Int))))) from hg_3 6 _ _ h6 (map_encO (r := 15) (p := []) (canF_ne hl_3 rfl rfl) rfl)) (map_encO (r := 15) (p := []) rfl rfl)) (map_encO (r := 6) (p := []) rfl rfl)) (map_encO (r := 6) (p := []) rfl rfl)), (hg_6 7 _ _ (hg_5 7 _ _ (hg_4 7 _ _ (show s_3 7 = (encN 17 [] (.of ([(.of [])] : List (NL Int)) : NL (NL Int))) from hg_3 7 _ _ h7 hv_3) (map_encN (r := 17) (p := []) rfl (fun _ => rfl) rfl)) (map_encN (r := 17) (p := []) rfl (fun _ => rfl) rfl)) (map_encN (r := 7) (p := []) rfl (fun _ => rfl) rfl)), (hg_6 8 _ _ (hg_5 8 _ _ (hg_4 8 _ _ (show s_3 8 = (encO (.at 18 []) (.of (mk_4 : List Bool))) from hg_3 8 _ _ h8 (map_encO (r := 18) (p := []) (canF_ne hl_3 rfl rfl) rfl)) (map_encO (r := 18) (p := []) rfl rfl)) (map_encO (r := 18) (p := []) rfl rfl)) (map_encO (r := 18) (p := []) rfl rfl))⟩ ?_
  rintro s ⟨h1, h2, h4, h5, h6, h7, h8⟩
  refine .nsq (.seq (.seq (rg (g0 (ji 0) fun h9 => gq (.nsq (.block (.loop ?_)))))))
  exact t_f104_l2 H x_2 x_1 F [r_3] ([(.of [])]) mk_4 0 _ ⟨h1, h2, h4, h5, h6, h7, h8, h9⟩ h
end
def e104 (F : Nat) : Ent := ent 104 (fun (x : ((Int × (List (Int × Int))) × Int × Unit)) => s_l6Shortest F x.1 x.2.1) (fun (r : ((List Int) × Bool)) => (.tup [Enc.enc (r.1 : (List Int)), Enc.enc (r.2 : Bool)])) 0 false []
theorem p104 {F : Nat} {x0 : (Int × (List (Int × Int)))} {x1 : Int} {r : ((List Int) × Bool)} (h : s_l6Shortest F x0 x1 = some r) : (e104 F).den [Enc.enc x0, Enc.enc x1] = some (.tup [Enc.enc (r.1 : (List Int)), Enc.enc (r.2 : Bool)]) := ent_put (x0, x1, ()) h
theorem o104 {D : Den} {σ : Sig} {F : Nat} (hF : Fits2 Try.prog D σ) (H : H104 D σ F) : (e104 F).Ok Try.prog := by
  refine ok_of (f := 104) (show unk 104 = 104 from rfl) (fun args r h => ?_) ⟨Try.f104, Try.func104, rfl, rfl⟩
  obtain ⟨⟨x0, x1, _⟩, y, rfl, hy, rfl⟩ := da_open h
  exact contract_run hF (by kernel_rfl) Try.func104 rfl c104 (show 2 ≤ Try.f104.ntmps by decide) (t104 H x0 x1 _ ⟨rfl, rfl⟩ hy)
/- loop.example/g01109/spec.SearchNumber -/
def A55_3 : AC := (.cond (.t 21) (.seq (.reg [] [(jm 22 4), (jm 2 22), ((jv 3 (.mov (.k (.bool true)))))] []) .ret) .skip)
def A55_2 : AC := (.seq (.reg [] [(jm 21 6)] []) A55_3)
def A55_4 : AC := (.reg [] [(jm 23 4), ((jv 24 (.bin .add (.t 23) (jn 1)))), (jm 4 24)] [])
def A55_1 : AC := (.block 1 (.seq (.seq (.reg [] [((jv 16 (.load (.ag [.s, .p]) (.t 1)))), (jm 17 4), (.mk (some 18) none false (.call (.k (.fn 104 [] [])) [(.t 16), (.t 17)])), (jm 15 18), ((jv 19 (.ext (.t 15) 0))), ((jv 20 (.extS (.t 15) 1))), (jm 5 19), (jm 6 20)] []) A55_2) A55_4))
def A55_5 : AC := (.cond (.t 14) (.seq (.reg [] [((jv 2 (.mov (jn 0)))), ((jv 3 (.mov (.k (.bool false)))))] []) .ret) .skip)
def A55_7 : AC := (.block 0 (.loop A55_1))
def A55_6 : AC := (.seq (.reg [] [((jv 4 (.mov (jn 0))))] []) A55_7)
def A55_8 : AC := (.seq (.seq (.reg [] [((jv 7 (.load (.ag [.s, .p]) (.t 1)))), (.mk (some 8) none false (.call (.k (.fn 72 [] [])) [(.t 7)])), ((jv 9 (.un .not (.t 8)))), (jm 10 9), ((jg 11 10 false (.fld (.t 1) 0 0))), ((jg 12 10 false (.load .s (.t 11)))), ((jg 13 10 false (.bin .gtr (.t 12) (jn 6)))), ((jv 14 (.pick (.t 10) (.k (.bool true)) (.t 13))))] []) A55_5) A55_6)
def A55 : AC := (.seq (.reg [.clr [1]] [(.mk (some 1) none false (.box (.t 0))), ((jv 2 (.mov (jn 0)))), ((jv 3 (.mov (.k (.bool false)))))] []) A55_8)
def an55 : List An := [{ id := 0, pre := [.clr [1]], ep := [], lin := [], sp := [] }]
theorem c55 : cC Try.prog Try.f55.ntmps an55 (Try.f55.body.getD .skip) = some A55 := by kernel_rfl
structure H55 (D : Den) (σ : Sig) (F : Nat) : Prop where
  c72 : ∀ (x0 : (Int × (List (Int × Int)))) r, s_l2Good F x0 = some r → D 72 [Enc.enc x0] = some (Enc.enc (r : Bool))
  g72 : σ 72 = some (0, false)
  c104 : ∀ (x0 : (Int × (List (Int × Int)))) (x1 : Int) r, s_l6Shortest F x0 x1 = some r → D 104 [Enc.enc x0, Enc.enc x1] = some (.tup [Enc.enc (r.1 : (List Int)), Enc.enc (r.2 : Bool)])
  g104 : σ 104 = some (0, false)
abbrev R55 (r : (Int × Bool)) : (Nat → V) → Prop := RR Try.prog [.tmp 2, .tmp 3] 0 false (.tup [Enc.enc (r.1 : Int), Enc.enc (r.2 : Bool)])
section
variable {D : Den} {σ : Sig} {F : Nat} {r : (Int × Bool)}
def s_SearchNumber_l1 (F : Nat) (x_1 : (Int × (List (Int × Int))))  : Nat → Int → Option (Int × Bool)
  | 0, _ => none
  | k + 1, x_5 =>
    (s_l6Shortest F x_1 x_5).bind fun r_7 =>
    bif r_7.2 then
      some (x_5, true)
    else
      (s_SearchNumber_l1 F x_1 k) (w64 (x_5 + 1))
theorem t_f55_l1 (H : H55 D σ F) (x_1 : (Int × (List (Int × Int))))  : ∀ (k : Nat) (x_5 : Int) (s : Nat → V), Facts [(1, (.ref (.bx 1) 0 [] (.agg [(ji x_1.1), (Enc.enc (x_1.2 : List (Int × Int)))]))), (2, (ji 0)), (3, (jb false)), (4, (ji x_5))] s → s_SearchNumber_l1 F x_1 k x_5 = some r → Run D σ (R55 r) (.run A55_1 [.lp A55_1, .bk 0]) s := by
  intro k
  induction k with
  | zero => intro x_5 s _ h; exact nomatch (h : (none : Option _) = some r)
  | succ k ih =>
    intro x_5 s hs h
    rw [s_SearchNumber_l1] at h
    obtain ⟨h1, h2, h3, h4⟩ := hs
    refine .block (.seq (.seq (rg (g1 1 (.agg [(ji x_1.1), (Enc.enc (x_1.2 : List (Int × Int)))]) h1 fun h16 => ?_))))
    refine gm h4 fun h17 => ?_
    obtain ⟨r_7, E_r_7, h⟩ := bind_some h
    refine g_call (m := 0) (al := false) (r := (.tup [Enc.enc (r_7.1 : (List Int)), Enc.enc (r_7.2 : Bool)])) [Enc.enc (x_1 : (Int × (List (Int × Int)))), Enc.enc (x_5 : Int)] (ta_cons (v := (.agg [(ji x_1.1), (Enc.enc (x_1.2 : List (Int × Int)))])) h16 rfl (Enc.erase_enc (x_1 : (Int × (List (Int × Int))))) (ta_cons (v := (ji x_5)) h17 rfl rfl ta_nil)) (H.c104 _ _ _ E_r_7) H.g104 rfl rfl rfl rfl ?_
    refine gm (rfl : (_ : V) = (.tup [(eL r_7.1), (jb r_7.2)])) fun h15 => ?_
    refine g1 15 (eL r_7.1) h15 fun h19 => ?_
    refine g1 15 (jb r_7.2) h15 fun h20 => ?_
    refine gm h19 fun h5 => gm h20 fun h6 => gq (.nsq (.seq (rg (gm h6 fun h21 => gq (.nsq (run_cond (t := r_7.2) h21 h (fun h => ?_) (fun h => ?_)))))))
    · refine .seq (rg (gm h4 fun h22 => gm h22 fun h2 => g0 (jb true) fun h3 => ?_))
      refine gq (.nsq (.ret ?_))
      have hr := Option.some.inj h
      subst hr
      exact rrB (res_tmp h2) (res_tmp h3) rfl
    refine .skip (.nsq (rg (gm h4 fun h23 => g1 23 (ji (w64 (x_5 + 1))) h23 fun h24 => ?_)))
    refine gm h24 fun h4 => gq (.nbk (.nlp ?_))
    exact ih (w64 (x_5 + 1)) _ ⟨h1, h2, h3, h4⟩ h
def s_SearchNumber_j1 (F : Nat) (x_1 : (Int × (List (Int × Int))))  (x_3 : Bool) : Option (Int × Bool) :=
  bif x_3 then
    some (0, false)
  else
    s_SearchNumber_l1 F x_1 F 0
theorem t_f55_j1 (H : H55 D σ F) (x_1 : (Int × (List (Int × Int))))  (x_3 : Bool) (s : Nat → V) (hs : Facts [(1, (.ref (.bx 1) 0 [] (.agg [(ji x_1.1), (Enc.enc (x_1.2 : List (Int × Int)))]))), (2, (ji 0)), (3, (jb false)), (14, (jb x_3))] s) (h : s_SearchNumber_j1 F x_1  x_3 = some r) : Run D σ (R55 r) (.nrm [.sq A55_5, .sq A55_6]) s := by
  unfold s_SearchNumber_j1 at h
  obtain ⟨h1, h2, h3, h14⟩ := hs
  refine .nsq (run_cond (t := x_3) h14 h (fun h => ?_) (fun h => ?_))
  · refine .seq (rg (g0 (ji 0) fun h2 => g0 (jb false) fun h3 => ?_))
    refine gq (.nsq (.ret ?_))
    have hr := Option.some.inj h
    subst hr
    exact rrB (res_tmp h2) (res_tmp h3) rfl
  refine .skip (.nsq (.seq (rg (g0 (ji 0) fun h4 => gq (.nsq (.block (.loop ?_)))))))
  exact t_f55_l1 H x_1 F 0 _ ⟨h1, h2, h3, h4⟩ h
def s_SearchNumber (F : Nat) (x_1 : (Int × (List (Int × Int)))) : Option (Int × Bool) :=
  (s_l2Good F x_1).bind fun r_8 =>
  bif (!r_8) then
    s_SearchNumber_j1 F x_1 true
  else
    s_SearchNumber_j1 F x_1 (decide (x_1.1 > 6))
theorem t55 (H : H55 D σ F) (x_1 : (Int × (List (Int × Int)))) (s : Nat → V) (hs : Facts [(0, (.agg [(ji x_1.1), (Enc.enc (x_1.2 : List (Int × Int)))]))] s) (h : s_SearchNumber F x_1 = some r) : Run D σ (R55 r) (.run A55 []) s := by
  unfold s_SearchNumber at h
  have h0 := hs
  refine .seq (run_reg ?_)
  refine e_clr ?_
  refine ez [(0, _), (1, _)] ⟨(keep_clear (pk := [1]) h0 rfl (map_agg (maps_cons mi (maps_cons me maps_nil)))), (gone_clear (pk := [1]) (t := 1) rfl)⟩ ?_
  rintro s ⟨h0, h1⟩
  refine g_box (.agg [(ji x_1.1), (Enc.enc (x_1.2 : List (Int × Int)))]) (rd_of h0 rfl) h1 rfl ?_
  refine g0 (ji 0) fun h2 => g0 (jb false) fun h3 => ?_
  refine gq (.nsq (.seq (.seq (rg (g1 1 (.agg [(ji x_1.1), (Enc.enc (x_1.2 : List (Int × Int)))]) (rfl : (_ : V) = (.ref (.bx 1) 0 [] (.agg [(ji x_1.1), (Enc.enc (x_1.2 : List (Int × Int)))]))) fun h7 => ?_)))))
  obtain ⟨r_8, E_r_8, h⟩ := bind_some h
  refine g_call (m := 0) (al := false) (r := (Enc.enc (r_8 : Bool))) [Enc.enc (x_1 : (Int × (List (Int × Int))))] (ta_cons (v := (.agg [(ji x_1.1), (Enc.enc (x_1.2 : List (Int × Int)))])) h7 rfl (Enc.erase_enc (x_1 : (Int × (List (Int × Int))))) ta_nil) (H.c72 _ _ E_r_8) H.g72 rfl rfl rfl rfl ?_
  refine g1 8 (jb (!r_8)) (rfl : (_ : V) = (jb r_8)) fun h9 => ?_
  refine gm h9 fun h10 => split_on (c := (!r_8)) h (fun hg4 h => ?_) (fun hg4 h => ?_)
  · refine g_no (h10.trans (congrArg V.bool hg4)) ?_
    refine g_no (h10.trans (congrArg V.bool hg4)) ?_
    refine g_no (h10.trans (congrArg V.bool hg4)) ?_
    refine g2 10 13 (jb true) (h10.trans (congrArg V.bool hg4)) (rfl : (_ : V) = (.tup [])) fun h14 => ?_
    refine gq ?_
    exact t_f55_j1 H x_1 true _ ⟨rfl, h2, h3, h14⟩ h
  refine g_yes (h10.trans (congrArg V.bool hg4)) (g1 1 (.ref (.bx 1) 0 [0] (ji x_1.1)) (rfl : (_ : V) = (.ref (.bx 1) 0 [] (.agg [(ji x_1.1), (Enc.enc (x_1.2 : List (Int × Int)))]))) fun h11 => ?_)
  refine g_yes (h10.trans (congrArg V.bool hg4)) (g1 11 (ji x_1.1) h11 fun h12 => ?_)
  refine g_yes (h10.trans (congrArg V.bool hg4)) (g1 12 (jb (decide (x_1.1 > 6))) h12 fun h13 => ?_)
  refine g2 10 13 (jb (decide (x_1.1 > 6))) (h10.trans (congrArg V.bool hg4)) h13 fun h14 => ?_
  refine gq ?_
  exact t_f55_j1 H x_1 (decide (x_1.1 > 6)) _ ⟨rfl, h2, h3, h14⟩ h
end
def e55 (F : Nat) : Ent := ent 55 (fun (x : ((Int × (List (Int × Int))) × Unit)) => s_SearchNumber F x.1) (fun (r : (Int × Bool)) => (.tup [Enc.enc (r.1 : Int), Enc.enc (r.2 : Bool)])) 0 false []
theorem p55 {F : Nat} {x0 : (Int × (List (Int × Int)))} {r : (Int × Bool)} (h : s_SearchNumber F x0 = some r) : (e55 F).den [Enc.enc x0] = some (.tup [Enc.enc (r.1 : Int), Enc.enc (r.2 : Bool)]) := ent_put (x0, ()) h
theorem o55 {D : Den} {σ : Sig} {F : Nat} (hF : Fits2 Try.prog D σ) (H : H55 D σ F) : (e55 F).Ok Try.prog := by
  refine ok_of (f := 55) (show unk 55 = 55 from rfl) (fun args r h => ?_) ⟨Try.f55, Try.func55, rfl, rfl⟩
  obtain ⟨⟨x0, _⟩, y, rfl, hy, rfl⟩ := da_open h
  exact contract_run hF (by kernel_rfl) Try.func55 rfl c55 (show 1 ≤ Try.f55.ntmps by decide) (t55 H x0 _ rfl hy)
/- loop.example/g01109/impl.within -/
def A105_1 : AC := (.seq (.reg [] [(jm 7 0), (jm 8 1), ((jv 9 (.bin .geq (.t 7) (.t 8)))), (jm 10 9), ((jg 11 10 true (.mov (.t 0)))), ((jg 12 10 true (.mov (.t 2)))), ((jg 13 10 true (.bin .leq (.t 11) (.t 12)))), ((jv 14 (.pick (.t 10) (.t 13) (.k (.bool false))))), (jm 6 14)] []) .ret)
def A105 : AC := (.seq (.reg [] [((jv 6 (.mov (.k (.bool false)))))] []) A105_1)
def an105 : List An := []
theorem c105 : cC Try.prog Try.f105.ntmps an105 (Try.f105.body.getD .skip) = some A105 := by kernel_rfl
structure H105 (D : Den) (σ : Sig) (F : Nat) : Prop where
  mk ::
abbrev R105 (r : Bool) : (Nat → V) → Prop := RR Try.prog [.tmp 6] 0 false (Enc.enc (r : Bool))
section
variable {D : Den} {σ : Sig} {F : Nat} {r : Bool}
def i_within (F : Nat) (x_1 : Int) (x_2 : Int) (x_3 : Int) : Option Bool :=
  bif decide (x_1 ≥ x_2) then
    some (decide (x_1 ≤ x_3))
  else
    some false
theorem t105 (H : H105 D σ F) (x_1 : Int) (x_2 : Int) (x_3 : Int) (s : Nat → V) (hs : Facts [(0, (ji x_1)), (1, (ji x_2)), (2, (ji x_3))] s) (h : i_within F x_1 x_2 x_3 = some r) : Run D σ (R105 r) (.run A105 []) s := by
  unfold i_within at h
  obtain ⟨h0, h1, h2⟩ := hs
  refine .seq (rg (g0 (jb false) fun h6 => ?_))
  refine gq (.nsq (.seq (rg (gm h0 fun h7 => gm h1 fun h8 => g2 7 8 (jb (decide (x_1 ≥ x_2))) h7 h8 fun h9 => ?_))))
  refine gm h9 fun h10 => split_on (c := decide (x_1 ≥ x_2)) h (fun hg4 h => ?_) (fun hg4 h => ?_)
  · refine g_yes (h10.trans (congrArg V.bool hg4)) (gm h0 fun h11 => ?_)
    refine g_yes (h10.trans (congrArg V.bool hg4)) (gm h2 fun h12 => ?_)
    refine g_yes (h10.trans (congrArg V.bool hg4)) (g2 11 12 (jb (decide (x_1 ≤ x_3))) h11 h12 fun h13 => ?_)
    refine g2 10 13 (jb (decide (x_1 ≤ x_3))) (h10.trans (congrArg V.bool hg4)) h13 fun h14 => ?_
    refine gm h14 fun h6 => gq (.nsq (.ret ?_))
    have hr := Option.some.inj h
    subst hr
    exact rrA (res_tmp h6) rfl
  refine g_no (h10.trans (congrArg V.bool hg4)) ?_
  refine g_no (h10.trans (congrArg V.bool hg4)) ?_
  refine g_no (h10.trans (congrArg V.bool hg4)) ?_
  refine g2 10 13 (jb false) (h10.trans (congrArg V.bool hg4)) (rfl : (_ : V) = (.tup [])) fun h14 => ?_
  refine gm h14 fun h6 => gq (.nsq (.ret ?_))
  have hr := Option.some.inj h
  subst hr
  exact rrA (res_tmp h6) rfl
end
def e105 (F : Nat) : Ent := ent 105 (fun (x : (Int × Int × Int × Unit)) => i_within F x.1 x.2.1 x.2.2.1) (fun (r : Bool) => (Enc.enc (r : Bool))) 0 false []
theorem p105 {F : Nat} {x0 : Int} {x1 : Int} {x2 : Int} {r : Bool} (h : i_within F x0 x1 x2 = some r) : (e105 F).den [Enc.enc x0, Enc.enc x1, Enc.enc x2] = some (Enc.enc (r : Bool)) := ent_put (x0, x1, x2, ()) h
theorem o105 {D : Den} {σ : Sig} {F : Nat} (hF : Fits2 Try.prog D σ) (H : H105 D σ F) : (e105 F).Ok Try.prog := by
  refine ok_of (f := 105) (show unk 105 = 105 from rfl) (fun args r h => ?_) ⟨Try.f105, Try.func105, rfl, rfl⟩
  obtain ⟨⟨x0, x1, x2, _⟩, y, rfl, hy, rfl⟩ := da_open h
  exact contract_run hF (by kernel_rfl) Try.func105 rfl c105 (show 3 ≤ Try.f105.ntmps by decide) (t105 H x0 x1 x2 _ ⟨rfl, rfl, rfl⟩ hy)
/- cmp.isNaN[int] -/
def A180_1 : AC := (.seq (.reg [] [(jm 3 0), (jm 4 0), ((jv 5 (.bin .neq (.t 3) (.t 4)))), (jm 2 5)] []) .ret)
def A180 : AC := (.seq (.reg [] [((jv 2 (.mov (.k (.bool false)))))] []) A180_1)
def an180 : List An := []
theorem c180 : cC Try.prog Try.f180.ntmps an180 (Try.f180.body.getD .skip) = some A180 := by kernel_rfl
structure H180 (D : Den) (σ : Sig) (F : Nat) : Prop where
  mk ::
abbrev R180 (r : Bool) : (Nat → V) → Prop := RR Try.prog [.tmp 2] 0 false (Enc.enc (r : Bool))
section
variable {D : Den} {σ : Sig} {F : Nat} {r : Bool}
def cmp_isNaN_int (F : Nat) (x_1 : Int) : Option Bool :=
  some (x_1 != x_1)
theorem t180 (H : H180 D σ F) (x_1 : Int) (s : Nat → V) (hs : Facts [(0, (ji x_1))] s) (h : cmp_isNaN_int F x_1 = some r) : Run D σ (R180 r) (.run A180 []) s := by
  unfold cmp_isNaN_int at h
  have h0 := hs
  refine .seq (rg (g0 (jb false) fun h2 => ?_))
  refine gq (.nsq (.seq (rg (gm h0 fun h3 => gm h0 fun h4 => g2 3 4 (jb (x_1 != x_1)) h3 h4 fun h5 => ?_))))
  refine gm h5 fun h2 => gq (.nsq (.ret ?_))
  have hr := Option.some.inj h
  subst hr
  exact rrA (res_tmp h2) rfl
end
def e180 (F : Nat) : Ent := ent 180 (fun (x : (Int × Unit)) => cmp_isNaN_int F x.1) (fun (r : Bool) => (Enc.enc (r : Bool))) 0 false []
theorem p180 {F : Nat} {x0 : Int} {r : Bool} (h : cmp_isNaN_int F x0 = some r) : (e180 F).den [Enc.enc x0] = some (Enc.enc (r : Bool)) := ent_put (x0, ()) h
theorem o180 {D : Den} {σ : Sig} {F : Nat} (hF : Fits2 Try.prog D σ) (H : H180 D σ F) : (e180 F).Ok Try.prog := by
  refine ok_of (f := 180) (show unk 180 = 180 from rfl) (fun args r h => ?_) ⟨Try.f180, Try.func180, rfl, rfl⟩
  obtain ⟨⟨x0, _⟩, y, rfl, hy, rfl⟩ := da_open h
  exact contract_run hF (by kernel_rfl) Try.func180 rfl c180 (show 1 ≤ Try.f180.ntmps by decide) (t180 H x0 _ rfl hy)
/- cmp.Compare[int] -/
def A153_5 : AC := (.cond (.t 12) (.seq (.reg [] [((jv 4 (.mov (jn 0))))] []) .ret) .skip)
def A153_6 : AC := (.seq (.reg [] [((jv 4 (.mov (jn (-1)))))] []) .ret)
def A153_4 : AC := (.cond (.t 11) (.seq (.seq (.reg [] [(jm 12 6)] []) A153_5) A153_6) .skip)
def A153_8 : AC := (.cond (.t 13) (.seq (.reg [] [((jv 4 (.mov (jn 1))))] []) .ret) .skip)
def A153_10 : AC := (.cond (.t 16) (.seq (.reg [] [((jv 4 (.mov (jn (-1)))))] []) .ret) .skip)
def A153_12 : AC := (.cond (.t 19) (.seq (.reg [] [((jv 4 (.mov (jn 1))))] []) .ret) .skip)
def A153_13 : AC := (.seq (.reg [] [((jv 4 (.mov (jn 0))))] []) .ret)
def A153_11 : AC := (.seq (.seq (.reg [] [(jm 17 0), (jm 18 1), ((jv 19 (.bin .gtr (.t 17) (.t 18))))] []) A153_12) A153_13)
def A153_9 : AC := (.seq (.seq (.reg [] [(jm 14 0), (jm 15 1), ((jv 16 (.bin .lss (.t 14) (.t 15))))] []) A153_10) A153_11)
def A153_7 : AC := (.seq (.seq (.reg [] [(jm 13 6)] []) A153_8) A153_9)
def A153_3 : AC := (.seq (.seq (.reg [] [(jm 11 5)] []) A153_4) A153_7)
def A153_2 : AC := (.seq (.reg [] [(jm 9 1), (.mk (some 10) none false (.call (.k (.fn 180 [] [])) [(.t 9)])), (jm 6 10)] []) A153_3)
def A153_1 : AC := (.seq (.reg [] [(jm 7 0), (.mk (some 8) none false (.call (.k (.fn 180 [] [])) [(.t 7)])), (jm 5 8)] []) A153_2)
def A153 : AC := (.seq (.reg [] [((jv 4 (.mov (jn 0))))] []) A153_1)
def an153 : List An := []
theorem c153 : cC Try.prog Try.f153.ntmps an153 (Try.f153.body.getD .skip) = some A153 := by kernel_rfl
structure H153 (D : Den) (σ : Sig) (F : Nat) : Prop where
  c180 : ∀ (x0 : Int) r, cmp_isNaN_int F x0 = some r → D 180 [Enc.enc x0] = some (Enc.enc (r : Bool))
  g180 : σ 180 = some (0, false)
abbrev R153 (r : Int) : (Nat → V) → Prop := RR Try.prog [.tmp 4] 0 false (Enc.enc (r : Int))
section
variable {D : Den} {σ : Sig} {F : Nat} {r : Int}
def cmp_Compare_int (F : Nat) (x_1 : Int) (x_2 : Int) : Option Int :=
  (cmp_isNaN_int F x_1).bind fun r_3 =>
  (cmp_isNaN_int F x_2).bind fun r_4 =>
  bif r_3 then
    bif r_4 then
      some 0
    else
      some (-1)
  else
    bif r_4 then
      some 1
    else
      bif decide (x_1 < x_2) then
        some (-1)
      else
        bif decide (x_1 > x_2) then
          some 1
        else
          some 0
theorem t153 (H : H153 D σ F) (x_1 : Int) (x_2 : Int) (s : Nat → V) (hs : Facts [(0, (ji x_1)), (1, (ji x_2))] s) (h : cmp_Compare_int F x_1 x_2 = some r) : Run D σ (R153 r) (.run A153 []) s := by
  unfold cmp_Compare_int at h
  obtain ⟨h0, h1⟩ := hs
  refine .seq (rg (g0 (ji 0) fun h4 => gq (.nsq (.seq (rg (gm h0 fun h7 => ?_))))))
  obtain ⟨r_3, E_r_3, h⟩ := bind_some h
  refine g_call (m := 0) (al := false) (r := (Enc.enc (r_3 : Bool))) [Enc.enc (x_1 : Int)] (ta_cons (v := (ji x_1)) h7 rfl rfl ta_nil) (H.c180 _ _ E_r_3) H.g180 rfl rfl rfl rfl ?_
  refine gm (rfl : (_ : V) = (jb r_3)) fun h5 => ?_
  refine gq (.nsq (.seq (rg (gm h1 fun h9 => ?_))))
  obtain ⟨r_4, E_r_4, h⟩ := bind_some h
  refine g_call (m := 0) (al := false) (r := (Enc.enc (r_4 : Bool))) [Enc.enc (x_2 : Int)] (ta_cons (v := (ji x_2)) h9 rfl rfl ta_nil) (H.c180 _ _ E_r_4) H.g180 rfl rfl rfl rfl ?_
  refine gm (rfl : (_ : V) = (jb r_4)) fun h6 => ?_
  refine gq (.nsq (.seq (.seq (rg (gm h5 fun h11 => gq (.nsq (run_cond (t := r_3) h11 h (fun h => ?_) (fun h => ?_))))))))
  · refine .seq (.seq (rg (gm h6 fun h12 => gq (.nsq (run_cond (t := r_4) h12 h (fun h => ?_) (fun h => ?_))))))
    · refine .seq (rg (g0 (ji 0) fun h4 => gq (.nsq (.ret ?_))))
      have hr := Option.some.inj h
      subst hr
      exact rrA (res_tmp h4) rfl
    refine .skip (.nsq (.seq (rg (g0 (ji (-1)) fun h4 => ?_))))
    refine gq (.nsq (.ret ?_))
    have hr := Option.some.inj h
    subst hr
    exact rrA (res_tmp h4) rfl
  refine .skip (.nsq (.seq (.seq (rg (gm h6 fun h13 => gq (.nsq (run_cond (t := r_4) h13 h (fun h => ?_) (fun h => ?_))))))))
  · refine .seq (rg (g0 (ji 1) fun h4 => gq (.nsq (.ret ?_))))
    have hr := Option.some.inj h
    subst hr
    exact rrA (res_tmp h4) rfl
  refine .skip (.nsq (.seq (.seq (rg (gm h0 fun h14 => gm h1 fun h15 => g2 14 15 (jb (decide (x_1 < x_2))) h14 h15 fun h16 => ?_)))))
  refine gq (.nsq (run_cond (t := decide (x_1 < x_2)) h16 h (fun h => ?_) (fun h => ?_)))
  · refine .seq (rg (g0 (ji (-1)) fun h4 => ?_))
    refine gq (.nsq (.ret ?_))
    have hr := Option.some.inj h
    subst hr
    exact rrA (res_tmp h4) rfl
  refine .skip (.nsq (.seq (.seq (rg (gm h0 fun h17 => gm h1 fun h18 => g2 17 18 (jb (decide (x_1 > x_2))) h17 h18 fun h19 => ?_)))))
  refine gq (.nsq (run_cond (t := decide (x_1 > x_2)) h19 h (fun h => ?_) (fun h => ?_)))
  · refine .seq (rg (g0 (ji 1) fun h4 => gq (.nsq (.ret ?_))))
    have hr := Option.some.inj h
    subst hr
    exact rrA (res_tmp h4) rfl
  refine .skip (.nsq (.seq (rg (g0 (ji 0) fun h4 => gq (.nsq (.ret ?_))))))
  have hr := Option.some.inj h
  subst hr
  exact rrA (res_tmp h4) rfl
end
def e153 (F : Nat) : Ent := ent 153 (fun (x : (Int × Int × Unit)) => cmp_Compare_int F x.1 x.2.1) (fun (r : Int) => (Enc.enc (r : Int))) 0 false []
theorem p153 {F : Nat} {x0 : Int} {x1 : Int} {r : Int} (h : cmp_Compare_int F x0 x1 = some r) : (e153 F).den [Enc.enc x0, Enc.enc x1] = some (Enc.enc (r : Int)) := ent_put (x0, x1, ()) h
theorem o153 {D : Den} {σ : Sig} {F : Nat} (hF : Fits2 Try.prog D σ) (H : H153 D σ F) : (e153 F).Ok Try.prog := by
  refine ok_of (f := 153) (show unk 153 = 153 from rfl) (fun args r h => ?_) ⟨Try.f153, Try.func153, rfl, rfl⟩
  obtain ⟨⟨x0, x1, _⟩, y, rfl, hy, rfl⟩ := da_open h
  exact contract_run hF (by kernel_rfl) Try.func153 rfl c153 (show 2 ≤ Try.f153.ntmps by decide) (t153 H x0 x1 _ ⟨rfl, rfl⟩ hy)
/- slices.Compare[[]int,int] -/
def A94_5 : AC := (.cond (.t 19) (.seq (.reg [] [((jv 4 (.mov (jn 1))))] []) .ret) .skip)
def A94_9 : AC := (.cond (.t 28) (.seq (.reg [] [(jm 29 8), (jm 4 29)] []) .ret) .skip)
def A94_8 : AC := (.seq (.reg [] [(jm 27 8), ((jv 28 (.bin .neq (.t 27) (jn 0))))] []) A94_9)
def A94_7 : AC := (.seq (.reg [] [(jm 24 6), (jm 25 7), (.mk (some 26) none false (.call (.k (.fn 153 [] [])) [(.t 24), (.t 25)])), (jm 8 26)] []) A94_8)
def A94_6 : AC := (.seq (.reg [] [(jm 20 1), (jm 21 5), ((jv 22 (.idx (.t 20) (.t 21) 1))), ((jv 23 (.load .s (.t 22)))), (jm 7 23)] []) A94_7)
def A94_4 : AC := (.seq (.seq (.reg [] [(jm 16 5), (jm 17 1), ((jv 18 (.len (.t 17)))), ((jv 19 (.bin .geq (.t 16) (.t 18))))] []) A94_5) A94_6)
def A94_10 : AC := (.reg [] [((jv 30 (.bin .add (.t 11) (jn 1)))), (jm 11 30)] [])
def A94_3 : AC := (.seq (.block 1 (.seq (.reg [] [(jm 13 11), ((jv 14 (.idx (.t 9) (.t 11) 1))), ((jv 15 (.load .s (.t 14)))), (jm 5 13), (jm 6 15)] []) A94_4)) A94_10)
def A94_2 : AC := (.seq (.cond (.t 12) .skip (.exit 0)) A94_3)
def A94_1 : AC := (.seq (.reg [] [((jv 12 (.bin .lss (.t 11) (.t 10))))] []) A94_2)
def A94_12 : AC := (.cond (.t 35) (.seq (.reg [] [((jv 4 (.mov (jn (-1)))))] []) .ret) .skip)
def A94_13 : AC := (.seq (.reg [] [((jv 4 (.mov (jn 0))))] []) .ret)
def A94_11 : AC := (.seq (.seq (.reg [] [(jm 31 0), ((jv 32 (.len (.t 31)))), (jm 33 1), ((jv 34 (.len (.t 33)))), ((jv 35 (.bin .lss (.t 32) (.t 34))))] []) A94_12) A94_13)
def A94_15 : AC := (.block 0 (.loop A94_1))
def A94_14 : AC := (.seq (.seq (.reg [] [(jm 9 0), ((jv 10 (.len (.t 9)))), ((jv 11 (.mov (jn 0))))] []) A94_15) A94_11)
def A94 : AC := (.seq (.reg [] [((jv 4 (.mov (jn 0))))] []) A94_14)
def an94 : List An := []
theorem c94 : cC Try.prog Try.f94.ntmps an94 (Try.f94.body.getD .skip) = some A94 := by kernel_rfl
structure H94 (D : Den) (σ : Sig) (F : Nat) : Prop where
  c153 : ∀ (x0 : Int) (x1 : Int) r, cmp_Compare_int F x0 x1 = some r → D 153 [Enc.enc x0, Enc.enc x1] = some (Enc.enc (r : Int))
  g153 : σ 153 = some (0, false)
abbrev R94 (r : Int) : (Nat → V) → Prop := RR Try.prog [.tmp 4] 0 false (Enc.enc (r : Int))
section
variable {D : Den} {σ : Sig} {F : Nat} {r : Int}
def slices_Compare_l1 (F : Nat) (x_1 : (List Int)) (x_2 : (List Int))  : Nat → Int → Option Int
  | 0, _ => none
  | k + 1, x_6 =>
    bif decide (x_6 < (x_1.length : Int)) then
      (idx x_1 x_6).bind fun e_10 =>
      bif decide (x_6 ≥ (x_2.length : Int)) then
        some 1
      else
        (idx x_2 x_6).bind fun e_11 =>
        (cmp_Compare_int F e_10 e_11).bind fun r_12 =>
        bif (r_12 != 0) then
          some r_12
        else
          (slices_Compare_l1 F x_1 x_2 k) (w64 (x_6 + 1))
    else
      bif decide ((x_1.length : Int) < (x_2.length : Int)) then
        some (-1)
      else
        some 0
theorem t_f94_l1 (H : H94 D σ F) (x_1 : (List Int)) (x_2 : (List Int))  : ∀ (k : Nat) (x_6 : Int) (s : Nat → V), Facts [(0, (eL x_1)), (1, (eL x_2)), (4, (ji 0)), (9, (eL x_1)), (10, (ji (x_1.length : Int))), (11, (ji x_6))] s → slices_Compare_l1 F x_1 x_2 k x_6 = some r → Run D σ (R94 r) (.run A94_1 [.lp A94_1, .bk 0, .sq A94_11]) s := by
  intro k
  induction k with
  | zero => intro x_6 s _ h; exact nomatch (h : (none : Option _) = some r)
  | succ k ih =>
    intro x_6 s hs h
    rw [slices_Compare_l1] at h
    obtain ⟨h0, h1, h4, h9, h10, h11⟩ := hs
    refine .seq (rg (g2 11 10 (jb (decide (x_6 < (x_1.length : Int)))) h11 h10 fun h12 => ?_))
    refine gq (.nsq (.seq (run_cond (t := decide (x_6 < (x_1.length : Int))) h12 h (fun h => ?_) (fun h => ?_))))
    · refine .skip (.nsq (.seq (.block (.seq (rg (gm h11 fun h13 => ?_))))))
      obtain ⟨e_10, E_e_10, h⟩ := bind_some h
      refine gv (.ref .sh 0 [] (ji e_10)) (ev_idx (t := .sh) (lo := 0) (xs := x_1) h9 h11 E_e_10 rfl rfl) fun h14 => ?_
      refine g1 14 (ji e_10) h14 fun h15 => ?_
      refine gm h13 fun h5 => gm h15 fun h6 => gq (.nsq (.seq (.seq (rg (gm h5 fun h16 => gm h1 fun h17 => gv (ji (x_2.length : Int)) (ev_len (xs := x_2) h17) fun h18 => ?_)))))
      refine g2 16 18 (jb (decide (x_6 ≥ (x_2.length : Int)))) h16 h18 fun h19 => ?_
      refine gq (.nsq (run_cond (t := decide (x_6 ≥ (x_2.length : Int))) h19 h (fun h => ?_) (fun h => ?_)))
      · refine .seq (rg (g0 (ji 1) fun h4 => gq (.nsq (.ret ?_))))
        have hr := Option.some.inj h
        subst hr
        exact rrA (res_tmp h4) rfl
      refine .skip (.nsq (.seq (rg (gm h1 fun h20 => gm h5 fun h21 => ?_))))
      obtain ⟨e_11, E_e_11, h⟩ := bind_some h
      refine gv (.ref .sh 0 [] (ji e_11)) (ev_idx (t := .sh) (lo := 0) (xs := x_2) h20 h21 E_e_11 rfl rfl) fun h22 => ?_
      refine g1 22 (ji e_11) h22 fun h23 => ?_
      refine gm h23 fun h7 => gq (.nsq (.seq (rg (gm h6 fun h24 => gm h7 fun h25 => ?_))))
      obtain ⟨r_12, E_r_12, h⟩ := bind_some h
      refine g_call (m := 0) (al := false) (r := (Enc.enc (r_12 : Int))) [Enc.enc (e_10 : Int), Enc.enc (e_11 : Int)] (ta_cons (v := (ji e_10)) h24 rfl rfl (ta_cons (v := (ji e_11)) h25 rfl rfl ta_nil)) (H.c153 _ _ _ E_r_12) H.g153 rfl rfl rfl rfl ?_
      refine gm (rfl : (_ : V) = (ji r_12)) fun h8 => ?_
      refine gq (.nsq (.seq (rg (gm h8 fun h27 => g1 27 (jb (r_12 != 0)) h27 fun h28 => ?_))))
      refine gq (.nsq (run_cond (t := (r_12 != 0)) h28 h (fun h => ?_) (fun h => ?_)))
      · refine .seq (rg (gm h8 fun h29 => gm h29 fun h4 => gq (.nsq (.ret ?_))))
        have hr := Option.some.inj h
        subst hr
        exact rrA (res_tmp h4) rfl
      refine .skip (.nbk (.nsq (rg (g1 11 (ji (w64 (x_6 + 1))) h11 fun h30 => ?_))))
      refine gm h30 fun h11 => gq (.nlp ?_)
      exact ih (w64 (x_6 + 1)) _ ⟨h0, h1, h4, h9, h10, h11⟩ h
    refine .exit (.esq (.elp (.ebk (.nsq (.seq (.seq (rg (gm h0 fun h31 => gv (ji (x_1.length : Int)) (ev_len (xs := x_1) h31) fun h32 => ?_))))))))
    refine gm h1 fun h33 => gv (ji (x_2.length : Int)) (ev_len (xs := x_2) h33) fun h34 => ?_
    refine g2 32 34 (jb (decide ((x_1.length : Int) < (x_2.length : Int)))) h32 h34 fun h35 => ?_
    refine gq (.nsq (run_cond (t := decide ((x_1.length : Int) < (x_2.length : Int))) h35 h (fun h => ?_) (fun h => ?_)))
    · refine .seq (rg (g0 (ji (-1)) fun h4 => ?_))
      refine gq (.nsq (.ret ?_))
      have hr := Option.some.inj h
      subst hr
      exact rrA (res_tmp h4) rfl
    refine .skip (.nsq (.seq (rg (g0 (ji 0) fun h4 => gq (.nsq (.ret ?_))))))
    have hr := Option.some.inj h
    subst hr
    exact rrA (res_tmp h4) rfl
def slices_Compare (F : Nat) (x_1 : (List Int)) (x_2 : (List Int)) : Option Int :=
  slices_Compare_l1 F x_1 x_2 F 0
theorem t94 (H : H94 D σ F) (x_1 : (List Int)) (x_2 : (List Int)) (s : Nat → V) (hs : Facts [(0, (eL x_1)), (1, (eL x_2))] s) (h : slices_Compare F x_1 x_2 = some r) : Run D σ (R94 r) (.run A94 []) s := by
  unfold slices_Compare at h
  obtain ⟨h0, h1⟩ := hs
  refine .seq (rg (g0 (ji 0) fun h4 => gq (.nsq (.seq (.seq (rg (gm h0 fun h9 => gv (ji (x_1.length : Int)) (ev_len (xs := x_1) h9) fun h10 => ?_)))))))
  refine g0 (ji 0) fun h11 => gq (.nsq (.block (.loop ?_)))
  exact t_f94_l1 H x_1 x_2 F 0 _ ⟨h0, h1, h4, h9, h10, h11⟩ h
end
def e94 (F : Nat) : Ent := ent 94 (fun (x : ((List Int) × (List Int) × Unit)) => slices_Compare F x.1 x.2.1) (fun (r : Int) => (Enc.enc (r : Int))) 0 false []
theorem p94 {F : Nat} {x0 : (List Int)} {x1 : (List Int)} {r : Int} (h : slices_Compare F x0 x1 = some r) : (e94 F).den [Enc.enc x0, Enc.enc x1] = some (Enc.enc (r : Int)) := ent_put (x0, x1, ()) h
theorem o94 {D : Den} {σ : Sig} {F : Nat} (hF : Fits2 Try.prog D σ) (H : H94 D σ F) : (e94 F).Ok Try.prog := by
  refine ok_of (f := 94) (show unk 94 = 94 from rfl) (fun args r h => ?_) ⟨Try.f94, Try.func94, rfl, rfl⟩
  obtain ⟨⟨x0, x1, _⟩, y, rfl, hy, rfl⟩ := da_open h
  exact contract_run hF (by kernel_rfl) Try.func94 rfl c94 (show 2 ≤ Try.f94.ntmps by decide) (t94 H x0 x1 _ ⟨rfl, rfl⟩ hy)
/- loop.example/g01109/impl.IsGraph -/
def A63_5 : AC := (.cond (.t 48) (.seq (.reg [] [((jv 2 (.mov (.k (.bool false)))))] []) .ret) .skip)
def A63_4 : AC := (.seq (.reg [] [((jv 17 (.idxA (.t 4) (jn 0) 2 1))), ((jv 18 (.load .s (.t 17)))), ((jv 19 (.bin .lss (.t 18) (jn 0)))), (jm 20 19), ((jg 21 20 false (.idxA (.t 4) (jn 0) 2 1))), ((jg 22 20 false (.load .s (.t 21)))), ((jg 23 20 false (.idxA (.t 4) (jn 1) 2 1))), ((jg 24 20 false (.load .s (.t 23)))), ((jg 25 20 false (.bin .geq (.t 22) (.t 24)))), ((jv 26 (.pick (.t 20) (.k (.bool true)) (.t 25)))), (jm 27 26), ((jg 28 27 false (.idxA (.t 4) (jn 1) 2 1))), ((jg 29 27 false (.load .s (.t 28)))), ((jg 30 27 false (.fld (.t 1) 0 0))), ((jg 31 27 false (.load .s (.t 30)))), ((jg 32 27 false (.bin .geq (.t 29) (.t 31)))), ((jv 33 (.pick (.t 27) (.k (.bool true)) (.t 32)))), (jm 34 33), ((jg 35 34 false (.mov (.t 3)))), ((jg 36 34 false (.bin .gtr (.t 35) (jn 0)))), ((jg 37 34 false (.mov (.t 36)))), ((jg 38 37 true (.fld (.t 1) 1 1))), ((jg 39 37 true (.load .p (.t 38)))), ((jg 40 37 true (.mov (.t 3)))), ((jg 41 37 true (.bin .sub (.t 40) (jn 1)))), ((jg 42 37 true (.idx (.t 39) (.t 41) 2))), ((jg 43 37 true (.sliceA (.t 42) 2 .s))), ((jg 44 37 true (.sliceA (.t 4) 2 .s))), (.mk (some 45) (some (37, true)) false (.call (.k (.fn 94 [] [])) [(.t 43), (.t 44)])), ((jg 46 37 true (.bin .geq (.t 45) (jn 0)))), ((jg 47 34 false (.pick (.t 37) (.t 46) (.k (.bool false))))), ((jv 48 (.pick (.t 34) (.k (.bool true)) (.t 47))))] []) A63_5)
def A63_6 : AC := (.reg [] [((jv 49 (.bin .add (.t 12) (jn 1)))), (jm 12 49)] [])
def A63_3 : AC := (.seq (.block 1 (.seq (.reg [.clr [4]] [(jm 14 12), ((jv 15 (.idx (.t 10) (.t 12) 2))), ((jv 16 (.load (.ag [.s, .s]) (.t 15)))), (.mk (some 4) none false (.alloc (.agg [(.int .i64 (.ofNat 0)), (.int .i64 (.ofNat 0))]))), (jm 3 14), (.mk none none false (.store (.ag [.s, .s]) (.t 4) (.t 16)))] []) A63_4)) A63_6)
def A63_2 : AC := (.seq (.cond (.t 13) .skip (.exit 0)) A63_3)
def A63_1 : AC := (.seq (.reg [] [((jv 13 (.bin .lss (.t 12) (.t 11))))] []) A63_2)
def A63_7 : AC := (.seq (.reg [] [((jv 2 (.mov (.k (.bool true)))))] []) .ret)
def A63_9 : AC := (.cond (.t 8) (.seq (.reg [] [((jv 2 (.mov (.k (.bool false)))))] []) .ret) .skip)
def A63_11 : AC := (.block 0 (.loop A63_1))
def A63_10 : AC := (.seq (.seq (.reg [] [((jv 9 (.fld (.t 1) 1 1))), ((jv 10 (.load .p (.t 9)))), ((jv 11 (.len (.t 10)))), ((jv 12 (.mov (jn 0))))] []) A63_11) A63_7)
def A63_8 : AC := (.seq (.seq (.reg [] [((jv 5 (.fld (.t 1) 0 0))), ((jv 6 (.load .s (.t 5)))), (.mk (some 7) none false (.call (.k (.fn 105 [] [])) [(.t 6), (jn 0), (jn 8)])), ((jv 8 (.un .not (.t 7))))] []) A63_9) A63_10)
def A63 : AC := (.seq (.reg [.clr [1]] [(.mk (some 1) none false (.box (.t 0))), ((jv 2 (.mov (.k (.bool false)))))] []) A63_8)
def an63 : List An := [{ id := 0, pre := [.clr [1]], ep := [], lin := [], sp := [] }, { id := 5, pre := [.clr [4]], ep := [], lin := [], sp := [] }]
theorem c63 : cC Try.prog Try.f63.ntmps an63 (Try.f63.body.getD .skip) = some A63 := by kernel_rfl
structure H63 (D : Den) (σ : Sig) (F : Nat) : Prop where
  c105 : ∀ (x0 : Int) (x1 : Int) (x2 : Int) r, i_within F x0 x1 x2 = some r → D 105 [Enc.enc x0, Enc.enc x1, Enc.enc x2] = some (Enc.enc (r : Bool))
  g105 : σ 105 = some (0, false)
  c94 : ∀ (x0 : (List Int)) (x1 : (List Int)) r, slices_Compare F x0 x1 = some r → D 94 [Enc.enc x0, Enc.enc x1] = some (Enc.enc (r : Int))
  g94 : σ 94 = some (0, false)
abbrev R63 (r : Bool) : (Nat → V) → Prop := RR Try.prog [.tmp 2] 0 false (Enc.enc (r : Bool))
section
variable {D : Den} {σ : Sig} {F : Nat} {r : Bool}
def i_IsGraph_j1 (F : Nat) (x_1 : (Int × (List (Int × Int)))) (x_9 : Int) (c1 : Int → Option Bool) (x_19 : Bool) : Option Bool :=
  bif x_19 then
    some false
  else
    c1 (w64 (x_9 + 1))
theorem t_f63_j1 (H : H63 D σ F) (x_1 : (Int × (List (Int × Int)))) (x_9 : Int) (c1 : Int → Option Bool) (Hc1 : ∀ (x_9 : Int) (s : Nat → V), Facts [(1, (.ref (.bx 1) 0 [] (.agg [(ji x_1.1), (Enc.enc (x_1.2 : List (Int × Int)))]))), (2, (jb false)), (10, (Enc.enc (x_1.2 : List (Int × Int)))), (11, (ji (x_1.2.length : Int))), (12, (ji x_9))] s → c1 x_9 = some r → Run D σ (R63 r) (.run A63_1 [.lp A63_1, .bk 0, .sq A63_7]) s) (x_19 : Bool) (s : Nat → V) (hs : Facts [(1, (.ref (.bx 1) 0 [] (.agg [(ji x_1.1), (Enc.enc (x_1.2 : List (Int × Int)))]))), (2, (jb false)), (10, (Enc.enc (x_1.2 : List (Int × Int)))), (11, (ji (x_1.2.length : Int))), (12, (ji x_9)), (48, (jb x_19))] s) (h : i_IsGraph_j1 F x_1 x_9 c1 x_19 = some r) : Run D σ (R63 r) (.nrm [.sq A63_5, .bk 1, .sq A63_6, .lp A63_1, .bk 0, .sq A63_7]) s := by
  unfold i_IsGraph_j1 at h
  obtain ⟨h1, h2, h10, h11, h12, h48⟩ := hs
  refine .nsq (run_cond (t := x_19) h48 h (fun h => ?_) (fun h => ?_))
  · refine .seq (rg (g0 (jb false) fun h2 => ?_))
    refine gq (.nsq (.ret ?_))
    have hr := Option.some.inj h
    subst hr
    exact rrA (res_tmp h2) rfl
  refine .skip (.nbk (.nsq (rg (g1 12 (ji (w64 (x_9 + 1))) h12 fun h49 => ?_))))
  refine gm h49 fun h12 => gq (.nlp ?_)
  exact Hc1 (w64 (x_9 + 1)) _ ⟨h1, h2, h10, h11, h12⟩ h
def i_IsGraph_l1 (F : Nat) (x_1 : (Int × (List (Int × Int))))  : Nat → Int → Option Bool
  | 0, _ => none
  | k + 1, x_9 =>
    bif decide (x_9 < (x_1.2.length : Int)) then
      (idx x_1.2 x_9).bind fun e_16 =>
      bif decide (e_16.1 < 0) then
        i_IsGraph_j1 F x_1 x_9 (i_IsGraph_l1 F x_1 k) true
      else
        bif decide (e_16.1 ≥ e_16.2) then
          i_IsGraph_j1 F x_1 x_9 (i_IsGraph_l1 F x_1 k) true
        else
          bif decide (e_16.2 ≥ x_1.1) then
            i_IsGraph_j1 F x_1 x_9 (i_IsGraph_l1 F x_1 k) true
          else
            bif decide (x_9 > 0) then
              (idx x_1.2 (w64 (x_9 - 1))).bind fun e_20 =>
              (slices_Compare F [e_20.1, e_20.2] [e_16.1, e_16.2]).bind fun r_21 =>
              i_IsGraph_j1 F x_1 x_9 (i_IsGraph_l1 F x_1 k) (decide (r_21 ≥ 0))
            else
              i_IsGraph_j1 F x_1 x_9 (i_IsGraph_l1 F x_1 k) false
    else
      some true
theorem t_f63_l1 (H : H63 D σ F) (x_1 : (Int × (List (Int × Int))))  : ∀ (k : Nat) (x_9 : Int) (s : Nat → V), Facts [(1, (.ref (.bx 1) 0 [] (.agg [(ji x_1.1), (Enc.enc (x_1.2 : List (Int × Int)))]))), (2, (jb false)), (10, (Enc.enc (x_1.2 : List (Int × Int)))), (11, (ji (x_1.2.length : Int))), (12, (ji x_9))] s → i_IsGraph_l1 F x_1 k x_9 = some r → Run D σ (R63 r) (.run A63_1 [.lp A63_1, .bk 0, .sq A63_7]) s := by
  intro k
  induction k with
  | zero => intro x_9 s _ h; exact nomatch (h : (none : Option _) = some r)
  | succ k ih =>
    intro x_9 s hs h
    rw [i_IsGraph_l1] at h
    obtain ⟨h1, h2, h10, h11, h12⟩ := hs
    refine .seq (rg (g2 12 11 (jb (decide (x_9 < (x_1.2.length : Int)))) h12 h11 fun h13 => ?_))
    refine gq (.nsq (.seq (run_cond (t := decide (x_9 < (x_1.2.length : Int))) h13 h (fun h => ?_) (fun h => ?_))))
    · refine .skip (.nsq (.seq (.block (.seq (run_reg ?_)))))
      refine e_clr ?_
      refine ez [(1, _), (2, _), (4, _), (10, _), (11, _), (12, _)] ⟨(keep_clear (pk := [4]) h1 rfl (map_bx rfl (map_agg (maps_cons mi (maps_cons me maps_nil))))), (keep_clear (pk := [4]) h2 rfl mb), (gone_clear (pk := [4]) (t := 4) rfl), (keep_clear (pk := [4]) h10 rfl me), (keep_clear (pk := [4]) h11 rfl mi), (keep_clear (pk := [4]) h12 rfl mi)⟩ ?_
      rintro s ⟨h1, h2, h4, h10, h11, h12⟩
      refine gm h12 fun h14 => ?_
      obtain ⟨e_16, E_e_16, h⟩ := bind_some h
      refine gv (.ref .sh 0 [] (.agg [(ji e_16.1), (ji e_16.2)])) (ev_idx (t := .sh) (lo := 0) (xs := x_1.2) h10 h12 E_e_16 rfl rfl) fun h15 => ?_
      refine g1 15 (.agg [(ji e_16.1), (ji e_16.2)]) h15 fun h16 => ?_
      refine g_alloc h4 ?_
      refine gm h14 fun h3 => g_store (.agg [(ji e_16.1), (ji e_16.2)]) (rd_of rfl rfl) (rd_of h16 rfl) (by refine ⟨by decide, by decide, rfl, rfl, rfl, ?_⟩; first | rfl | simp [V.toks, V.tokss, Enc.toks_enc]) ?_
      refine gz [(1, (.ref (.bx 1) 0 [] (.agg [(ji x_1.1), (Enc.enc (x_1.2 : List (Int × Int)))]))), (2, (jb false)), (3, (ji x_9)), (4, (.ref (.bx 4) 0 [] (.agg [(ji e_16.1), (ji e_16.2)]))), (10, (Enc.enc (x_1.2 : List (Int × Int)))), (11, (ji (x_1.2.length : Int))), (12, (ji x_9))] ⟨(keep_mut h1 (mut_ref_ne rfl rfl (mut_agg (muts_cons rfl (muts_cons (Enc.mut_enc _ _ _ _ (x_1.2 : List (Int × Int))) rfl))))), (keep_mut h2 rfl), (keep_mut h3 rfl), (keep_mut rfl rfl), (keep_mut h10 (Enc.mut_enc _ _ _ _ (x_1.2 : List (Int × Int)))), (keep_mut h11 rfl), (keep_mut h12 rfl)⟩ ?_
      rintro s ⟨h1, h2, h3, h4, h10, h11, h12⟩
      refine .nsq (.seq (rg (g1 4 (.ref (.bx 4) 0 [0] (ji e_16.1)) h4 fun h17 => ?_)))
      refine g1 17 (ji e_16.1) h17 fun h18 => ?_
      refine g1 18 (jb (decide (e_16.1 < 0))) h18 fun h19 => ?_
      refine gm h19 fun h20 => split_on (c := decide (e_16.1 < 0)) h (fun hg4 h => ?_) (fun hg4 h => ?_)
      · refine g_no (h20.trans (congrArg V.bool hg4)) ?_
        refine g_no (h20.trans (congrArg V.bool hg4)) ?_
        refine g_no (h20.trans (congrArg V.bool hg4)) ?_
        refine g_no (h20.trans (congrArg V.bool hg4)) ?_
        refine g_no (h20.trans (congrArg V.bool hg4)) ?_
        refine g2 20 25 (jb true) (h20.trans (congrArg V.bool hg4)) (rfl : (_ : V) = (.tup [])) fun h26 => ?_
        refine gm h26 fun h27 => g_no h27 ?_
        refine g_no h27 ?_
        refine g_no h27 ?_
        refine g_no h27 ?_
        refine g_no h27 ?_
        refine g2 27 32 (jb true) h27 (rfl : (_ : V) = (.tup [])) fun h33 => ?_
        refine gm h33 fun h34 => g_no h34 ?_
        refine g_no h34 ?_
        refine g_no h34 ?_
        refine g_skip rfl ?_
        refine g_skip rfl ?_
        refine g_skip rfl ?_
        refine g_skip rfl ?_
        refine g_skip rfl ?_
        refine g_skip rfl ?_
        refine g_skip rfl ?_
        refine g_skip rfl ?_
        refine g_skip rfl ?_
        refine g_no h34 ?_
        refine g2 34 47 (jb true) h34 (rfl : (_ : V) = (.tup [])) fun h48 => ?_
        refine gz [(1, _), (2, _), (10, _), (11, _), (12, _), (48, _)] ⟨h1, h2, h10, h11, h12, h48⟩ ?_
        rintro s ⟨h1, h2, h10, h11, h12, h48⟩
        exact t_f63_j1 H x_1 x_9 (i_IsGraph_l1 F x_1 k) ih true _ ⟨h1, h2, h10, h11, h12, h48⟩ h
      refine g_yes (h20.trans (congrArg V.bool hg4)) (g1 4 (.ref (.bx 4) 0 [0] (ji e_16.1)) h4 fun h21 => ?_)
      refine g_yes (h20.trans (congrArg V.bool hg4)) (g1 21 (ji e_16.1) h21 fun h22 => ?_)
      refine g_yes (h20.trans (congrArg V.bool hg4)) (g1 4 (.ref (.bx 4) 0 [1] (ji e_16.2)) h4 fun h23 => ?_)
      refine g_yes (h20.trans (congrArg V.bool hg4)) (g1 23 (ji e_16.2) h23 fun h24 => ?_)
      refine g_yes (h20.trans (congrArg V.bool hg4)) (g2 22 24 (jb (decide (e_16.1 ≥ e_16.2))) h22 h24 fun h25 => ?_)
      refine g2 20 25 (jb (decide (e_16.1 ≥ e_16.2))) (h20.trans (congrArg V.bool hg4)) h25 fun h26 => ?_
      refine gm h26 fun h27 => split_on (c := decide (e_16.1 ≥ e_16.2)) h (fun hg11 h => ?_) (fun hg11 h => ?_)
      · refine g_no (h27.trans (congrArg V.bool hg11)) ?_
        refine g_no (h27.trans (congrArg V.bool hg11)) ?_
        refine g_no (h27.trans (congrArg V.bool hg11)) ?_
        refine g_no (h27.trans (congrArg V.bool hg11)) ?_
        refine g_no (h27.trans (congrArg V.bool hg11)) ?_
        refine g2 27 32 (jb true) (h27.trans (congrArg V.bool hg11)) (rfl : (_ : V) = (.tup [])) fun h33 => ?_
        refine gm h33 fun h34 => g_no h34 ?_
        refine g_no h34 ?_
        refine g_no h34 ?_
        refine g_skip rfl ?_
        refine g_skip rfl ?_
        refine g_skip rfl ?_
        refine g_skip rfl ?_
        refine g_skip rfl ?_
        refine g_skip rfl ?_
        refine g_skip rfl ?_
        refine g_skip rfl ?_
        refine g_skip rfl ?_
        refine g_no h34 ?_
        refine g2 34 47 (jb true) h34 (rfl : (_ : V) = (.tup [])) fun h48 => ?_
        refine gz [(1, _), (2, _), (10, _), (11, _), (12, _), (48, _)] ⟨h1, h2, h10, h11, h12, h48⟩ ?_
        rintro s ⟨h1, h2, h10, h11, h12, h48⟩
        exact t_f63_j1 H x_1 x_9 (i_IsGraph_l1 F x_1 k) ih true _ ⟨h1, h2, h10, h11, h12, h48⟩ h
      refine g_yes (h27.trans (congrArg V.bool hg11)) (g1 4 (.ref (.bx 4) 0 [1] (ji e_16.2)) h4 fun h28 => ?_)
      refine g_yes (h27.trans (congrArg V.bool hg11)) (g1 28 (ji e_16.2) h28 fun h29 => ?_)
      refine g_yes (h27.trans (congrArg V.bool hg11)) (g1 1 (.ref (.bx 1) 0 [0] (ji x_1.1)) h1 fun h30 => ?_)
      refine g_yes (h27.trans (congrArg V.bool hg11)) (g1 30 (ji x_1.1) h30 fun h31 => ?_)
      refine g_yes (h27.trans (congrArg V.bool hg11)) (g2 29 31 (jb (decide (e_16.2 ≥ x_1.1))) h29 h31 fun h32 => ?_)
      refine g2 27 32 (jb (decide (e_16.2 ≥ x_1.1))) (h27.trans (congrArg V.bool hg11)) h32 fun h33 => ?_
      refine gm h33 fun h34 => split_on (c := decide (e_16.2 ≥ x_1.1)) h (fun hg18 h => ?_) (fun hg18 h => ?_)
      · refine g_no (h34.trans (congrArg V.bool hg18)) ?_
        refine g_no (h34.trans (congrArg V.bool hg18)) ?_
        refine g_no (h34.trans (congrArg V.bool hg18)) ?_
        refine g_skip rfl ?_
        refine g_skip rfl ?_
        refine g_skip rfl ?_
        refine g_skip rfl ?_
        refine g_skip rfl ?_
        refine g_skip rfl ?_
        refine g_skip rfl ?_
        refine g_skip rfl ?_
        refine g_skip rfl ?_
        refine g_no (h34.trans (congrArg V.bool hg18)) ?_
        refine g2 34 47 (jb true) (h34.trans (congrArg V.bool hg18)) (rfl : (_ : V) = (.tup [])) fun h48 => ?_
        refine gz [(1, _), (2, _), (10, _), (11, _), (12, _), (48, _)] ⟨h1, h2, h10, h11, h12, h48⟩ ?_
        rintro s ⟨h1, h2, h10, h11, h12, h48⟩
        exact t_f63_j1 H x_1 x_9 (i_IsGraph_l1 F x_1 k) ih true _ ⟨h1, h2, h10, h11, h12, h48⟩ h
      refine g_yes (h34.trans (congrArg V.bool hg18)) (gm h3 fun h35 => ?_)
      refine g_yes (h34.trans (congrArg V.bool hg18)) (g1 35 (jb (decide (x_9 > 0))) h35 fun h36 => ?_)
      refine g_yes (h34.trans (congrArg V.bool hg18)) (gm h36 fun h37 => ?_)
      refine split_on (c := decide (x_9 > 0)) h (fun hg21 h => ?_) (fun hg21 h => ?_)
      · refine g_yes (h37.trans (congrArg V.bool hg21)) (g1 1 (.ref (.bx 1) 0 [1] (Enc.enc (x_1.2 : List (Int × Int)))) h1 fun h38 => ?_)
        refine g_yes (h37.trans (congrArg V.bool hg21)) (g1 38 (Enc.enc (x_1.2 : List (Int × Int))) h38 fun h39 => ?_)
        refine g_yes (h37.trans (congrArg V.bool hg21)) (gm h3 fun h40 => ?_)
        refine g_yes (h37.trans (congrArg V.bool hg21)) (g1 40 (ji (w64 (x_9 - 1))) h40 fun h41 => ?_)
        obtain ⟨e_20, E_e_20, h⟩ := bind_some h
        refine g_yes (h37.trans (congrArg V.bool hg21)) (gv (.ref .sh 0 [] (.agg [(ji e_20.1), (ji e_20.2)])) (ev_idx (t := .sh) (lo := 0) (xs := x_1.2) h39 h41 E_e_20 rfl rfl) fun h42 => ?_)
        refine g_yes (h37.trans (congrArg V.bool hg21)) (g1 42 (eL [e_20.1, e_20.2]) h42 fun h43 => ?_)
        refine g_yes (h37.trans (congrArg V.bool hg21)) (g1 4 (encO (.bx 4) (.of ([e_16.1, e_16.2] : List Int))) h4 fun h44 => ?_)
        obtain ⟨r_21, E_r_21, h⟩ := bind_some h
        refine g_yes (h37.trans (congrArg V.bool hg21)) (g_call (m := 0) (al := false) (r := (Enc.enc (r_21 : Int))) [Enc.enc ([e_20.1, e_20.2] : (List Int)), Enc.enc ([e_16.1, e_16.2] : (List Int))] (ta_cons (v := (eL [e_20.1, e_20.2])) h43 rfl (Enc.erase_enc ([e_20.1, e_20.2] : (List Int))) (ta_cons (v := (encO (.bx 4) (.of ([e_16.1, e_16.2] : List Int)))) h44 rfl (erase_encO (o := .of [e_16.1, e_16.2])) ta_nil)) (H.c94 _ _ _ E_r_21) H.g94 rfl rfl rfl rfl ?_)
        refine g_yes (h37.trans (congrArg V.bool hg21)) (g1 45 (jb (decide (r_21 ≥ 0))) (rfl : (_ : V) = (ji r_21)) fun h46 => ?_)
        refine g_yes (h34.trans (congrArg V.bool hg18)) (g2 37 46 (jb (decide (r_21 ≥ 0))) (h37.trans (congrArg V.bool hg21)) h46 fun h47 => ?_)
        refine g2 34 47 (jb (decide (r_21 ≥ 0))) (h34.trans (congrArg V.bool hg18)) h47 fun h48 => ?_
        refine gz [(1, _), (2, _), (10, _), (11, _), (12, _), (48, _)] ⟨h1, h2, h10, h11, h12, h48⟩ ?_
        rintro s ⟨h1, h2, h10, h11, h12, h48⟩
        exact t_f63_j1 H x_1 x_9 (i_IsGraph_l1 F x_1 k) ih (decide (r_21 ≥ 0)) _ ⟨h1, h2, h10, h11, h12, h48⟩ h
      refine g_no (h37.trans (congrArg V.bool hg21)) ?_
      refine g_no (h37.trans (congrArg V.bool hg21)) ?_
      refine g_no (h37.trans (congrArg V.bool hg21)) ?_
      refine g_no (h37.trans (congrArg V.bool hg21)) ?_
      refine g_no (h37.trans (congrArg V.bool hg21)) ?_
      refine g_no (h37.trans (congrArg V.bool hg21)) ?_
      refine g_no (h37.trans (congrArg V.bool hg21)) ?_
      refine g_no (h37.trans (congrArg V.bool hg21)) ?_
      refine g_no (h37.trans (congrArg V.bool hg21)) ?_
      refine g_yes (h34.trans (congrArg V.bool hg18)) (g2 37 46 (jb false) (h37.trans (congrArg V.bool hg21)) (rfl : (_ : V) = (.tup [])) fun h47 => ?_)
      refine g2 34 47 (jb false) (h34.trans (congrArg V.bool hg18)) h47 fun h48 => ?_
      refine gz [(1, _), (2, _), (10, _), (11, _), (12, _), (48, _)] ⟨h1, h2, h10, h11, h12, h48⟩ ?_
      rintro s ⟨h1, h2, h10, h11, h12, h48⟩
      exact t_f63_j1 H x_1 x_9 (i_IsGraph_l1 F x_1 k) ih false _ ⟨h1, h2, h10, h11, h12, h48⟩ h
    refine .exit (.esq (.elp (.ebk (.nsq (.seq (rg (g0 (jb true) fun h2 => ?_)))))))
    refine gq (.nsq (.ret ?_))
    have hr := Option.some.inj h
    subst hr
    exact rrA (res_tmp h2) rfl
def i_IsGraph (F : Nat) (x_1 : (Int × (List (Int × Int)))) : Option Bool :=
  (i_within F x_1.1 0 8).bind fun r_2 =>
  bif (!r_2) then
    some false
  else
    i_IsGraph_l1 F x_1 F 0
theorem t63 (H : H63 D σ F) (x_1 : (Int × (List (Int × Int)))) (s : Nat → V) (hs : Facts [(0, (.agg [(ji x_1.1), (Enc.enc (x_1.2 : List (Int × Int)))]))] s) (h : i_IsGraph F x_1 = some r) : Run D σ (R63 r) (.run A63 []) s := by
  unfold i_IsGraph at h
  have h0 := hs
  refine .seq (run_reg ?_)
  refine e_clr ?_
  refine ez [(0, _), (1, _)] ⟨(keep_clear (pk := [1]) h0 rfl (map_agg (maps_cons mi (maps_cons me maps_nil)))), (gone_clear (pk := [1]) (t := 1) rfl)⟩ ?_
  rintro s ⟨h0, h1⟩
  refine g_box (.agg [(ji x_1.1), (Enc.enc (x_1.2 : List (Int × Int)))]) (rd_of h0 rfl) h1 rfl ?_
  refine g0 (jb false) fun h2 => ?_
  refine gq (.nsq (.seq (.seq (rg (g1 1 (.ref (.bx 1) 0 [0] (ji x_1.1)) (rfl : (_ : V) = (.ref (.bx 1) 0 [] (.agg [(ji x_1.1), (Enc.enc (x_1.2 : List (Int × Int)))]))) fun h5 => ?_)))))
  refine g1 5 (ji x_1.1) h5 fun h6 => ?_
  obtain ⟨r_2, E_r_2, h⟩ := bind_some h
  refine g_call (m := 0) (al := false) (r := (Enc.enc (r_2 : Bool))) [Enc.enc (x_1.1 : Int), Enc.enc (0 : Int), Enc.enc (8 : Int)] (ta_cons (v := (ji x_1.1)) h6 rfl rfl (ta_cons (v := (ji 0)) rfl rfl rfl (ta_cons (v := (ji 8)) rfl rfl rfl ta_nil))) (H.c105 _ _ _ _ E_r_2) H.g105 rfl rfl rfl rfl ?_
  refine g1 7 (jb (!r_2)) (rfl : (_ : V) = (jb r_2)) fun h8 => ?_
  refine gq (.nsq (run_cond (t := (!r_2)) h8 h (fun h => ?_) (fun h => ?_)))
  · refine .seq (rg (g0 (jb false) fun h2 => ?_))
    refine gq (.nsq (.ret ?_))
    have hr := Option.some.inj h
    subst hr
    exact rrA (res_tmp h2) rfl
  refine .skip (.nsq (.seq (.seq (rg (g1 1 (.ref (.bx 1) 0 [1] (Enc.enc (x_1.2 : List (Int × Int)))) (rfl : (_ : V) = (.ref (.bx 1) 0 [] (.agg [(ji x_1.1), (Enc.enc (x_1.2 : List (Int × Int)))]))) fun h9 => ?_)))))
  refine g1 9 (Enc.enc (x_1.2 : List (Int × Int))) h9 fun h10 => ?_
  refine gv (ji (x_1.2.length : Int)) (ev_len (xs := x_1.2) h10) fun h11 => ?_
  refine g0 (ji 0) fun h12 => gq (.nsq (.block (.loop ?_)))
  exact t_f63_l1 H x_1 F 0 _ ⟨rfl, h2, h10, h11, h12⟩ h
end
def e63 (F : Nat) : Ent := ent 63 (fun (x : ((Int × (List (Int × Int))) × Unit)) => i_IsGraph F x.1) (fun (r : Bool) => (Enc.enc (r : Bool))) 0 false []
theorem p63 {F : Nat} {x0 : (Int × (List (Int × Int)))} {r : Bool} (h : i_IsGraph F x0 = some r) : (e63 F).den [Enc.enc x0] = some (Enc.enc (r : Bool)) := ent_put (x0, ()) h
theorem o63 {D : Den} {σ : Sig} {F : Nat} (hF : Fits2 Try.prog D σ) (H : H63 D σ F) : (e63 F).Ok Try.prog := by
  refine ok_of (f := 63) (show unk 63 = 63 from rfl) (fun args r h => ?_) ⟨Try.f63, Try.func63, rfl, rfl⟩
  obtain ⟨⟨x0, _⟩, y, rfl, hy, rfl⟩ := da_open h
  exact contract_run hF (by kernel_rfl) Try.func63 rfl c63 (show 1 ≤ Try.f63.ntmps by decide) (t63 H x0 _ rfl hy)
/- loop.example/g01109/impl.netOf -/
def A65_5 : AC := (.reg [] [((jv 28 (.fld (.t 3) 0 0))), ((jv 29 (.load .p (.t 28)))), ((jv 30 (.idxA (.t 5) (jn 1) 2 1))), ((jv 31 (.load .s (.t 30)))), ((jv 32 (.idx (.t 29) (.t 31) 1))), ((jv 33 (.load .s (.t 32)))), ((jv 34 (.idxA (.t 5) (jn 0) 2 1))), ((jv 35 (.load .s (.t 34)))), ((jv 36 (.bin .shl (jn 1) (.t 35)))), ((jv 37 (.bin .or (.t 33) (.t 36)))), ((jv 38 (.idx (.t 29) (.t 31) 1))), (.mk none none false (.store .s (.t 38) (.t 37)))] [])
def A65_4 : AC := (.seq (.reg [] [((jv 17 (.fld (.t 3) 0 0))), ((jv 18 (.load .p (.t 17)))), ((jv 19 (.idxA (.t 5) (jn 0) 2 1))), ((jv 20 (.load .s (.t 19)))), ((jv 21 (.idx (.t 18) (.t 20) 1))), ((jv 22 (.load .s (.t 21)))), ((jv 23 (.idxA (.t 5) (jn 1) 2 1))), ((jv 24 (.load .s (.t 23)))), ((jv 25 (.bin .shl (jn 1) (.t 24)))), ((jv 26 (.bin .or (.t 22) (.t 25)))), ((jv 27 (.idx (.t 18) (.t 20) 1))), (.mk none none false (.store .s (.t 27) (.t 26)))] []) A65_5)
def A65_6 : AC := (.reg [] [((jv 39 (.bin .add (.t 13) (jn 1)))), (jm 13 39)] [])
def A65_3 : AC := (.seq (.block 1 (.seq (.reg [.clr [5]] [((jv 15 (.idx (.t 11) (.t 13) 2))), ((jv 16 (.load (.ag [.s, .s]) (.t 15)))), (.mk (some 5) none false (.alloc (.agg [(.int .i64 (.ofNat 0)), (.int .i64 (.ofNat 0))]))), (.mk none none false (.store (.ag [.s, .s]) (.t 5) (.t 16)))] []) A65_4)) A65_6)
def A65_2 : AC := (.seq (.cond (.t 14) .skip (.exit 0)) A65_3)
def A65_1 : AC := (.seq (.reg [] [((jv 14 (.bin .lss (.t 13) (.t 12))))] []) A65_2)
def A65_7 : AC := (.seq (.reg [] [((jv 40 (.load (.ag [.p]) (.t 3)))), (.mk none none false (.store (.ag [.p]) (.t 2) (.t 40)))] []) .ret)
def A65_10 : AC := (.block 0 (.loop A65_1))
def A65_9 : AC := (.seq (.seq (.reg [] [((jv 10 (.fld (.t 1) 1 1))), ((jv 11 (.load .p (.t 10)))), ((jv 12 (.len (.t 11)))), ((jv 13 (.mov (jn 0))))] []) A65_10) A65_7)
def A65_8 : AC := (.seq (.reg [.clr [8, 3]] [((jv 6 (.fld (.t 1) 0 0))), ((jv 7 (.load .s (.t 6)))), (.mk (some 8) none false (.mk (.t 7) (.int .i64 (.ofNat 0)) (.int .i64 (.ofNat 0)))), ((jv 9 (.bld (.agg [(.sl .nl .s 0 [])]) [(0, 0, (.t 8))]))), (.mk (some 3) none false (.alloc (.agg [(.sl .nl .s 0 [])]))), (.mk none none false (.store (.ag [.p]) (.t 3) (.t 9)))] []) A65_9)
def A65 : AC := (.seq (.reg [.clr [1, 2]] [(.mk (some 1) none false (.box (.t 0))), (.mk (some 2) none false (.alloc (.agg [(.sl .nl .s 0 [])])))] []) A65_8)
def an65 : List An := [{ id := 0, pre := [.clr [1, 2]], ep := [], lin := [], sp := [] }, { id := 1, pre := [.clr [8, 3]], ep := [], lin := [], sp := [] }, { id := 4, pre := [.clr [5]], ep := [], lin := [], sp := [] }]
theorem c65 : cC Try.prog Try.f65.ntmps an65 (Try.f65.body.getD .skip) = some A65 := by kernel_rfl
structure H65 (D : Den) (σ : Sig) (F : Nat) : Prop where
  mk ::
abbrev R65 (r : (S1 (List Int))) : (Nat → V) → Prop := RR Try.prog [.cell 2 71] 0 false (Enc.enc (r : (S1 (List Int))))
section
variable {D : Den} {σ : Sig} {F : Nat} {r : (S1 (List Int))}
def i_netOf_l1 (F : Nat) (x_1 : (Int × (List (Int × Int))))  : Nat → (List Int) → Int → Option (S1 (List Int))
  | 0, _, _ => none
  | k + 1, x_10, x_11 =>
    bif decide (x_11 < (x_1.2.length : Int)) then
      (idx x_1.2 x_11).bind fun e_19 =>
      (idx x_10 e_19.1).bind fun e_20 =>
      (shlI .i64 1 e_19.2).bind fun q_21 =>
      (idx x_10 e_19.1).bind fun e_22 =>
      (idx (x_10.set e_19.1.toNat (ior .i64 e_20 q_21)) e_19.2).bind fun e_23 =>
      (shlI .i64 1 e_19.1).bind fun q_24 =>
      (idx (x_10.set e_19.1.toNat (ior .i64 e_20 q_21)) e_19.2).bind fun e_25 =>
      (i_netOf_l1 F x_1 k) ((x_10.set e_19.1.toNat (ior .i64 e_20 q_21)).set e_19.2.toNat (ior .i64 e_23 q_24)) (w64 (x_11 + 1))
    else
      some (S1.mk x_10)
theorem t_f65_l1 (H : H65 D σ F) (x_1 : (Int × (List (Int × Int))))  : ∀ (k : Nat) (x_10 : (List Int)) (x_11 : Int) (s : Nat → V), Facts [(2, (.ref (.bx 2) 0 [] (.agg [(.sl .nl (Enc.shp Int) 0 [])]))), (3, (.ref (.bx 3) 0 [] (.agg [(oI 8 [] (.of x_10))]))), (11, (Enc.enc (x_1.2 : List (Int × Int)))), (12, (ji (x_1.2.length : Int))), (13, (ji x_11))] s → i_netOf_l1 F x_1 k x_10 x_11 = some r → Run D σ (R65 r) (.run A65_1 [.lp A65_1, .bk 0, .sq A65_7]) s := by
  intro k
  induction k with
  | zero => intro x_10 x_11 s _ h; exact nomatch (h : (none : Option _) = some r)
  | succ k ih =>
    intro x_10 x_11 s hs h
    rw [i_netOf_l1] at h
    obtain ⟨h2, h3, h11, h12, h13⟩ := hs
    refine .seq (rg (g2 13 12 (jb (decide (x_11 < (x_1.2.length : Int)))) h13 h12 fun h14 => ?_))
    refine gq (.nsq (.seq (run_cond (t := decide (x_11 < (x_1.2.length : Int))) h14 h (fun h => ?_) (fun h => ?_))))
    · refine .skip (.nsq (.seq (.block (.seq (run_reg ?_)))))
      refine e_clr ?_
      refine ez [(2, _), (3, _), (5, _), (11, _), (12, _), (13, _)] ⟨(keep_clear (pk := [5]) h2 rfl (map_bx rfl (map_agg (maps_cons rfl maps_nil)))), (keep_clear (pk := [5]) h3 rfl (map_bx rfl (map_agg (maps_cons (map_encO (r := 8) (p := []) rfl rfl) maps_nil)))), (gone_clear (pk := [5]) (t := 5) rfl), (keep_clear (pk := [5]) h11 rfl me), (keep_clear (pk := [5]) h12 rfl mi), (keep_clear (pk := [5]) h13 rfl mi)⟩ ?_
      rintro s ⟨h2, h3, h5, h11, h12, h13⟩
      obtain ⟨e_19, E_e_19, h⟩ := bind_some h
      refine gv (.ref .sh 0 [] (.agg [(ji e_19.1), (ji e_19.2)])) (ev_idx (t := .sh) (lo := 0) (xs := x_1.2) h11 h13 E_e_19 rfl rfl) fun h15 => ?_
      refine g1 15 (.agg [(ji e_19.1), (ji e_19.2)]) h15 fun h16 => ?_
      refine g_alloc h5 ?_
      refine g_store (.agg [(ji e_19.1), (ji e_19.2)]) (rd_of rfl rfl) (rd_of h16 rfl) (by refine ⟨by decide, by decide, rfl, rfl, rfl, ?_⟩; first | rfl | simp [V.toks, V.tokss, Enc.toks_enc]) ?_
      refine gz [(2, (.ref (.bx 2) 0 [] (.agg [(.sl .nl (Enc.shp Int) 0 [])]))), (3, (.ref (.bx 3) 0 [] (.agg [(oI 8 [] (.of x_10))]))), (5, (.ref (.bx 5) 0 [] (.agg [(ji e_19.1), (ji e_19.2)]))), (11, (Enc.enc (x_1.2 : List (Int × Int)))), (12, (ji (x_1.2.length : Int))), (13, (ji x_11))] ⟨(keep_mut h2 (mut_ref_ne rfl rfl (mut_agg (muts_cons rfl rfl)))), (keep_mut h3 (mut_ref_ne rfl rfl (mut_agg (muts_cons (mut_own_ne rfl rfl) rfl)))), (keep_mut rfl rfl), (keep_mut h11 (Enc.mut_enc _ _ _ _ (x_1.2 : List (Int × Int)))), (keep_mut h12 rfl), (keep_mut h13 rfl)⟩ ?_
      rintro s ⟨h2, h3, h5, h11, h12, h13⟩
      refine .nsq (.seq (rg (g1 3 (.ref (.bx 3) 0 [0] (oI 8 [] (.of x_10))) h3 fun h17 => ?_)))
      refine g1 17 (oI 8 [] (.of x_10)) h17 fun h18 => ?_
      refine g1 5 (.ref (.bx 5) 0 [0] (ji e_19.1)) h5 fun h19 => ?_
      refine g1 19 (ji e_19.1) h19 fun h20 => ?_
      obtain ⟨e_20, E_e_20, h⟩ := bind_some h
      refine gv (.ref (.at 8 []) e_19.1.toNat [] (ji e_20)) (ev_idxO (o := (.of x_10)) h18 h20 E_e_20 rfl) fun h21 => ?_
      refine g1 21 (ji e_20) h21 fun h22 => ?_
      refine g1 5 (.ref (.bx 5) 0 [1] (ji e_19.2)) h5 fun h23 => ?_
      refine g1 23 (ji e_19.2) h23 fun h24 => ?_
      obtain ⟨q_21, E_q_21, h⟩ := bind_some h
      refine gv (ji q_21) (ev_shl rfl h24 E_q_21) fun h25 => ?_
      refine g2 22 25 (ji (ior .i64 e_20 q_21)) h22 h25 fun h26 => ?_
      obtain ⟨e_22, E_e_22, h⟩ := bind_some h
      refine gv (.ref (.at 8 []) e_19.1.toNat [] (ji e_22)) (ev_idxO (o := (.of x_10)) h18 h20 E_e_22 rfl) fun h27 => ?_
      refine g_store (ji (ior .i64 e_20 q_21)) (rd_of h27 rfl) (rd_of h26 rfl) (by refine ⟨by decide, by decide, rfl, rfl, rfl, ?_⟩; first | rfl | simp [V.toks, V.tokss, Enc.toks_enc]) ?_
      refine gz [(2, (.ref (.bx 2) 0 [] (.agg [(.sl .nl (Enc.shp Int) 0 [])]))), (3, (.ref (.bx 3) 0 [] (.agg [(oI 8 [] (.of (x_10.set e_19.1.toNat (ior .i64 e_20 q_21))))]))), (5, (.ref (.bx 5) 0 [] (.agg [(ji e_19.1), (ji e_19.2)]))), (11, (Enc.enc (x_1.2 : List (Int × Int)))), (12, (ji (x_1.2.length : Int))), (13, (ji x_11))] ⟨(keep_mut h2 (mut_ref_ne rfl rfl (mut_agg (muts_cons rfl rfl)))), (keep_mut h3 (mut_ref_ne rfl rfl (mut_agg (muts_cons mut_own rfl)))), (keep_mut h5 rfl), (keep_mut h11 (Enc.mut_enc _ _ _ _ (x_1.2 : List (Int × Int)))), (keep_mut h12 rfl), (keep_mut h13 rfl)⟩ ?_
      rintro s ⟨h2, h3, h5, h11, h12, h13⟩
      refine .nsq (rg (g1 3 (.ref (.bx 3) 0 [0] (oI 8 [] (.of (x_10.set e_19.1.toNat (ior .i64 e_20 q_21))))) h3 fun h28 => ?_))
      refine g1 28 (oI 8 [] (.of (x_10.set e_19.1.toNat (ior .i64 e_20 q_21)))) h28 fun h29 => ?_
      refine g1 5 (.ref (.bx 5) 0 [1] (ji e_19.2)) h5 fun h30 => ?_
      refine g1 30 (ji e_19.2) h30 fun h31 => ?_
      obtain ⟨e_23, E_e_23, h⟩ := bind_some h
      refine gv (.ref (.at 8 []) e_19.2.toNat [] (ji e_23)) (ev_idxO (o := (.of (x_10.set e_19.1.toNat (ior .i64 e_20 q_21)))) h29 h31 E_e_23 rfl) fun h32 => ?_
      refine g1 32 (ji e_23) h32 fun h33 => ?_
      refine g1 5 (.ref (.bx 5) 0 [0] (ji e_19.1)) h5 fun h34 => ?_
      refine g1 34 (ji e_19.1) h34 fun h35 => ?_
      obtain ⟨q_24, E_q_24, h⟩ := bind_some h
      refine gv (ji q_24) (ev_shl rfl h35 E_q_24) fun h36 => ?_
      refine g2 33 36 (ji (ior .i64 e_23 q_24)) h33 h36 fun h37 => ?_
      obtain ⟨e_25, E_e_25, h⟩ := bind_some h
      refine gv (.ref (.at 8 []) e_19.2.toNat [] (ji e_25)) (ev_idxO (o := (.of (x_10.set e_19.1.toNat (ior .i64 e_20 q_21)))) h29 h31 E_e_25 rfl) fun h38 => ?_
      refine g_store (ji (ior .i64 e_23 q_24)) (rd_of h38 rfl) (rd_of h37 rfl) (by refine ⟨by decide, by decide, rfl, rfl, rfl, ?_⟩; first | rfl | simp [V.toks, V.tokss, Enc.toks_enc]) ?_
      refine gz [(2, (.ref (.bx 2) 0 [] (.agg [(.sl .nl (Enc.shp Int) 0 [])]))), (3, (.ref (.bx 3) 0 [] (.agg [(oI 8 [] (.of ((x_10.set e_19.1.toNat (ior .i64 e_20 q_21)).set e_19.2.toNat (ior .i64 e_23 q_24))))]))), (11, (Enc.enc (x_1.2 : List (Int × Int)))), (12, (ji (x_1.2.length : Int))), (13, (ji x_11))] ⟨(keep_mut h2 (mut_ref_ne rfl rfl (mut_agg (muts_cons rfl rfl)))), (keep_mut h3 (mut_ref_ne rfl rfl (mut_agg (muts_cons mut_own rfl)))), (keep_mut h11 (Enc.mut_enc _ _ _ _ (x_1.2 : List (Int × Int)))), (keep_mut h12 rfl), (keep_mut h13 rfl)⟩ ?_
      rintro s ⟨h2, h3, h11, h12, h13⟩
      refine .nbk (.nsq (rg (g1 13 (ji (w64 (x_11 + 1))) h13 fun h39 => ?_)))
      refine gm h39 fun h13 => gq (.nlp ?_)
      exact ih ((x_10.set e_19.1.toNat (ior .i64 e_20 q_21)).set e_19.2.toNat (ior .i64 e_23 q_24)) (w64 (x_11 + 1)) _ ⟨h2, h3, h11, h12, h13⟩ h
    refine .exit (.esq (.elp (.ebk (.nsq (.seq (rg (g1 3 (.agg [(oI 8 [] (.of x_10))]) h3 fun h40 => ?_)))))))
    refine g_store (.agg [(oI 8 [] (.of x_10))]) (rd_of h2 rfl) (rd_of h40 rfl) (by refine ⟨by decide, by decide, rfl, rfl, rfl, ?_⟩; first | rfl | simp [V.toks, V.tokss, Enc.toks_enc]) ?_
    refine gz [(2, (.ref (.bx 2) 0 [] (.agg [(oI 8 [] (.of x_10))])))] (keep_mut h2 rfl) ?_
    rintro s h2
    refine .nsq (.ret ?_)
    have hr := Option.some.inj h
    subst hr
    exact rrA (res_cell h2 (by kernel_rfl)) (fin_retF (fin_agg (fins_cons (fin_own (o := .of x_10)) fins_nil)) (mine_agg (mines_cons (mine_own rfl) mines_nil)))
def i_netOf (F : Nat) (x_1 : (Int × (List (Int × Int)))) : Option (S1 (List Int)) :=
  (mkN x_1.1 (0 : Int)).bind fun mk_2 =>
  i_netOf_l1 F x_1 F mk_2 0
theorem t65 (H : H65 D σ F) (x_1 : (Int × (List (Int × Int)))) (s : Nat → V) (hs : Facts [(0, (.agg [(ji x_1.1), (Enc.enc (x_1.2 : List (Int × Int)))]))] s) (h : i_netOf F x_1 = some r) : Run D σ (R65 r) (.run A65 []) s := by
  unfold i_netOf at h
  have h0 := hs
  refine .seq (run_reg ?_)
  refine e_clr ?_
  refine ez [(0, _), (1, _), (2, _)] ⟨(keep_clear (pk := [1, 2]) h0 rfl (map_agg (maps_cons mi (maps_cons me maps_nil)))), (gone_clear (pk := [1, 2]) (t := 1) rfl), (gone_clear (pk := [1, 2]) (t := 2) rfl)⟩ ?_
  rintro s ⟨h0, h1, h2⟩
  refine g_box (.agg [(ji x_1.1), (Enc.enc (x_1.2 : List (Int × Int)))]) (rd_of h0 rfl) h1 rfl ?_
  refine g_alloc h2 ?_
  refine gq (.nsq (.seq (run_reg ?_)))
  refine e_clr ?_
  refine ez [(1, _), (2, _), (3, _), (8, _)] ⟨(keep_clear (pk := [8, 3]) rfl rfl (map_bx rfl (map_agg (maps_cons mi (maps_cons me maps_nil))))), (keep_clear (pk := [8, 3]) rfl rfl (map_bx rfl (map_agg (maps_cons rfl maps_nil)))), (gone_clear (pk := [8, 3]) (t := 3) rfl), (gone_clear (pk := [8, 3]) (t := 8) rfl)⟩ ?_
  rintro s ⟨h1, h2, h3, h8⟩
  refine g1 1 (.ref (.bx 1) 0 [0] (ji x_1.1)) h1 fun h6 => ?_
  refine g1 6 (ji x_1.1) h6 fun h7 => ?_
  obtain ⟨mk_2, E_mk_2, h⟩ := bind_some h
  refine g_mk (0 : Int) h7 rfl h8 E_mk_2 ?_
  refine g1 8 (.agg [(oI 8 [] (.of mk_2))]) (rfl : (_ : V) = (oI 8 [] (.of mk_2))) fun h9 => ?_
  refine g_alloc h3 ?_
  refine g_store (.agg [(oI 8 [] (.of mk_2))]) (rd_of rfl rfl) (rd_of h9 rfl) (by refine ⟨by decide, by decide, rfl, rfl, rfl, ?_⟩; first | rfl | simp [V.toks, V.tokss, Enc.toks_enc]) ?_
  refine gz [(1, (.ref (.bx 1) 0 [] (.agg [(ji x_1.1), (Enc.enc (x_1.2 : List (Int × Int)))]))), (2, (.ref (.bx 2) 0 [] (.agg [(.sl .nl (Enc.shp Int) 0 [])]))), (3, (.ref (.bx 3) 0 [] (.agg [(oI 8 [] (.of mk_2))])))] ⟨(keep_mut h1 (mut_ref_ne rfl rfl (mut_agg (muts_cons rfl (muts_cons (Enc.mut_enc _ _ _ _ (x_1.2 : List (Int × Int))) rfl))))), (keep_mut h2 (mut_ref_ne rfl rfl (mut_agg (muts_cons rfl rfl)))), (keep_mut rfl rfl)⟩ ?_
  rintro s ⟨h1, h2, h3⟩
  refine .nsq (.seq (.seq (rg (g1 1 (.ref (.bx 1) 0 [1] (Enc.enc (x_1.2 : List (Int × Int)))) h1 fun h10 => ?_))))
  refine g1 10 (Enc.enc (x_1.2 : List (Int × Int))) h10 fun h11 => ?_
  refine gv (ji (x_1.2.length : Int)) (ev_len (xs := x_1.2) h11) fun h12 => ?_
  refine g0 (ji 0) fun h13 => gq (.nsq (.block (.loop ?_)))
  exact t_f65_l1 H x_1 F mk_2 0 _ ⟨h2, h3, h11, h12, h13⟩ h
end
def e65 (F : Nat) : Ent := ent 65 (fun (x : ((Int × (List (Int × Int))) × Unit)) => i_netOf F x.1) (fun (r : (S1 (List Int))) => (Enc.enc (r : (S1 (List Int))))) 0 false []
theorem p65 {F : Nat} {x0 : (Int × (List (Int × Int)))} {r : (S1 (List Int))} (h : i_netOf F x0 = some r) : (e65 F).den [Enc.enc x0] = some (Enc.enc (r : (S1 (List Int)))) := ent_put (x0, ()) h
theorem o65 {D : Den} {σ : Sig} {F : Nat} (hF : Fits2 Try.prog D σ) (H : H65 D σ F) : (e65 F).Ok Try.prog := by
  refine ok_of (f := 65) (show unk 65 = 65 from rfl) (fun args r h => ?_) ⟨Try.f65, Try.func65, rfl, rfl⟩
  obtain ⟨⟨x0, _⟩, y, rfl, hy, rfl⟩ := da_open h
  exact contract_run hF (by kernel_rfl) Try.func65 rfl c65 (show 1 ≤ Try.f65.ntmps by decide) (t65 H x0 _ rfl hy)
/- (loop.example/g01109/impl.net).all -/
def A113_1 : AC := (.seq (.reg [] [((jv 3 (.fld (.t 1) 0 0))), ((jv 4 (.load .p (.t 3)))), ((jv 5 (.len (.t 4)))), ((jv 6 (.bin .shl (jn 1) (.t 5)))), ((jv 7 (.bin .sub (.t 6) (jn 1)))), (jm 2 7)] []) .ret)
def A113 : AC := (.seq (.reg [.clr [1]] [(.mk (some 1) none false (.box (.t 0))), ((jv 2 (.mov (jn 0))))] []) A113_1)
def an113 : List An := [{ id := 0, pre := [.clr [1]], ep := [], lin := [], sp := [] }]
theorem c113 : cC Try.prog Try.f113.ntmps an113 (Try.f113.body.getD .skip) = some A113 := by kernel_rfl
structure H113 (D : Den) (σ : Sig) (F : Nat) : Prop where
  mk ::
abbrev R113 (r : Int) : (Nat → V) → Prop := RR Try.prog [.tmp 2] 0 false (Enc.enc (r : Int))
section
variable {D : Den} {σ : Sig} {F : Nat} {r : Int}
def i_net_all (F : Nat) (x_1 : (S1 (List Int))) : Option Int :=
  (shlI .i64 1 (x_1.a.length : Int)).bind fun q_2 =>
  some (w64 (q_2 - 1))
theorem t113 (H : H113 D σ F) (x_1 : (S1 (List Int))) (s : Nat → V) (hs : Facts [(0, (.agg [(eL x_1.a)]))] s) (h : i_net_all F x_1 = some r) : Run D σ (R113 r) (.run A113 []) s := by
  unfold i_net_all at h
  have h0 := hs
  refine .seq (run_reg ?_)
  refine e_clr ?_
  refine ez [(0, _), (1, _)] ⟨(keep_clear (pk := [1]) h0 rfl (map_agg (maps_cons me maps_nil))), (gone_clear (pk := [1]) (t := 1) rfl)⟩ ?_
  rintro s ⟨h0, h1⟩
  refine g_box (.agg [(eL x_1.a)]) (rd_of h0 rfl) h1 rfl ?_
  refine g0 (ji 0) fun h2 => gq (.nsq (.seq (rg (g1 1 (.ref (.bx 1) 0 [0] (eL x_1.a)) (rfl : (_ : V) = (.ref (.bx 1) 0 [] (.agg [(eL x_1.a)]))) fun h3 => ?_))))
  refine g1 3 (eL x_1.a) h3 fun h4 => ?_
  refine gv (ji (x_1.a.length : Int)) (ev_len (xs := x_1.a) h4) fun h5 => ?_
  obtain ⟨q_2, E_q_2, h⟩ := bind_some h
  refine gv (ji q_2) (ev_shl rfl h5 E_q_2) fun h6 => ?_
  refine g1 6 (ji (w64 (q_2 - 1))) h6 fun h7 => ?_
  refine gm h7 fun h2 => gq (.nsq (.ret ?_))
  have hr := Option.some.inj h
  subst hr
  exact rrA (res_tmp h2) rfl
end
def e113 (F : Nat) : Ent := ent 113 (fun (x : ((S1 (List Int)) × Unit)) => i_net_all F x.1) (fun (r : Int) => (Enc.enc (r : Int))) 0 false []
theorem p113 {F : Nat} {x0 : (S1 (List Int))} {r : Int} (h : i_net_all F x0 = some r) : (e113 F).den [Enc.enc x0] = some (Enc.enc (r : Int)) := ent_put (x0, ()) h
theorem o113 {D : Den} {σ : Sig} {F : Nat} (hF : Fits2 Try.prog D σ) (H : H113 D σ F) : (e113 F).Ok Try.prog := by
  refine ok_of (f := 113) (show unk 113 = 113 from rfl) (fun args r h => ?_) ⟨Try.f113, Try.func113, rfl, rfl⟩
  obtain ⟨⟨x0, _⟩, y, rfl, hy, rfl⟩ := da_open h
  exact contract_run hF (by kernel_rfl) Try.func113 rfl c113 (show 1 ≤ Try.f113.ntmps by decide) (t113 H x0 _ rfl hy)
/- loop.example/g01109/impl.setOf -/
def A83_2 : AC := (.cond (.t 8) .skip (.exit 0))
def A83_4 : AC := (.cond (.t 15) (.reg [.clr [18, 19]] [(jm 16 3), (jm 17 4), (.mk (some 18) none false (.lit (.int .i64 (.ofNat 0)) 1 [(0, 0, (.t 17))])), (.mk (some 19) none false (.app .s (.t 16) (.t 18))), (jm 3 19)] [.home 19 3]) .skip)
def A83_5 : AC := (.reg [] [(jm 9 4), ((jv 10 (.bin .add (.t 9) (jn 1)))), (jm 4 10)] [])
def A83_3 : AC := (.seq (.block 1 (.seq (.reg [] [(jm 11 0), (jm 12 4), ((jv 13 (.bin .shr (.t 11) (.t 12)))), ((jv 14 (.bin .and (.t 13) (jn 1)))), ((jv 15 (.bin .eql (.t 14) (jn 1))))] []) A83_4)) A83_5)
def A83_1 : AC := (.seq (.seq (.reg [] [(jm 5 0), (jm 6 4), ((jv 7 (.bin .shr (.t 5) (.t 6)))), ((jv 8 (.bin .neq (.t 7) (jn 0))))] []) A83_2) A83_3)
def A83_6 : AC := (.seq (.reg [] [(jm 20 3), (jm 2 20)] [.home 3 2]) .ret)
def A83_9 : AC := (.block 0 (.loop A83_1))
def A83_8 : AC := (.seq (.seq (.reg [] [((jv 4 (.mov (jn 0))))] []) A83_9) A83_6)
def A83_7 : AC := (.seq (.reg [] [((jv 3 (.mov (.k (.sl .nl .s 0 [])))))] []) A83_8)
def A83 : AC := (.seq (.reg [] [((jv 2 (.mov (.k (.sl .nl .s 0 [])))))] []) A83_7)
def an83 : List An := [{ id := 6, pre := [.clr [18, 19]], ep := [.home 19 3], lin := [], sp := [] }, { id := 7, pre := [], ep := [.home 3 2], lin := [], sp := [] }]
theorem c83 : cC Try.prog Try.f83.ntmps an83 (Try.f83.body.getD .skip) = some A83 := by kernel_rfl
structure H83 (D : Den) (σ : Sig) (F : Nat) : Prop where
  mk ::
abbrev R83 (r : (List Int)) : (Nat → V) → Prop := RR Try.prog [.tmp 2] 0 false (Enc.enc (r : (List Int)))
section
variable {D : Den} {σ : Sig} {F : Nat} {r : (List Int)}
def i_setOf_j1 (F : Nat) (x_1 : Int) (x_8 : Int) (c1 : (NL Int) → Int → Option (List Int)) (x_17 : (NL Int)) : Option (List Int) :=
  c1 x_17 (w64 (x_8 + 1))
theorem t_f83_j1 (H : H83 D σ F) (x_1 : Int) (x_8 : Int) (c1 : (NL Int) → Int → Option (List Int)) (Hc1 : ∀ (x_7 : (NL Int)) (x_8 : Int) (s : Nat → V), Facts [(0, (ji x_1)), (2, (.sl .nl (Enc.shp Int) 0 [])), (3, (oI 3 [] x_7)), (4, (ji x_8))] s → c1 x_7 x_8 = some r → Run D σ (R83 r) (.run A83_1 [.lp A83_1, .bk 0, .sq A83_6]) s) (x_17 : (NL Int)) (s : Nat → V) (hs : Facts [(0, (ji x_1)), (2, (.sl .nl (Enc.shp Int) 0 [])), (3, (oI 3 [] x_17)), (4, (ji x_8))] s) (h : i_setOf_j1 F x_1 x_8 c1 x_17 = some r) : Run D σ (R83 r) (.nrm [.bk 1, .sq A83_5, .lp A83_1, .bk 0, .sq A83_6]) s := by
  unfold i_setOf_j1 at h
  obtain ⟨h0, h2, h3, h4⟩ := hs
  refine .nbk (.nsq (rg (gm h4 fun h9 => g1 9 (ji (w64 (x_8 + 1))) h9 fun h10 => ?_)))
  refine gm h10 fun h4 => gq (.nlp ?_)
  exact Hc1 x_17 (w64 (x_8 + 1)) _ ⟨h0, h2, h3, h4⟩ h
def i_setOf_l1 (F : Nat) (x_1 : Int)  : Nat → (NL Int) → Int → Option (List Int)
  | 0, _, _ => none
  | k + 1, x_7, x_8 =>
    (shrI .i64 x_1 x_8).bind fun q_14 =>
    bif (q_14 != 0) then
      (shrI .i64 x_1 x_8).bind fun q_15 =>
      bif ((iand .i64 q_15 1) == 1) then
        (appL x_7.list [x_8]).bind fun ap_18 =>
        i_setOf_j1 F x_1 x_8 (i_setOf_l1 F x_1 k) (.of ap_18)
      else
        i_setOf_j1 F x_1 x_8 (i_setOf_l1 F x_1 k) x_7
    else
      some x_7.list
theorem t_f83_l1 (H : H83 D σ F) (x_1 : Int)  : ∀ (k : Nat) (x_7 : (NL Int)) (x_8 : Int) (s : Nat → V), Facts [(0, (ji x_1)), (2, (.sl .nl (Enc.shp Int) 0 [])), (3, (oI 3 [] x_7)), (4, (ji x_8))] s → i_setOf_l1 F x_1 k x_7 x_8 = some r → Run D σ (R83 r) (.run A83_1 [.lp A83_1, .bk 0, .sq A83_6]) s := by
  intro k
  induction k with
  | zero => intro x_7 x_8 s _ h; exact nomatch (h : (none : Option _) = some r)
  | succ k ih =>
    intro x_7 x_8 s hs h
    rw [i_setOf_l1] at h
    obtain ⟨h0, h2, h3, h4⟩ := hs
    refine .seq (.seq (rg (gm h0 fun h5 => gm h4 fun h6 => ?_)))
    obtain ⟨q_14, E_q_14, h⟩ := bind_some h
    refine gv (ji q_14) (ev_shr h5 h6 E_q_14) fun h7 => ?_
    refine g1 7 (jb (q_14 != 0)) h7 fun h8 => ?_
    refine gq (.nsq (run_cond (t := (q_14 != 0)) h8 h (fun h => ?_) (fun h => ?_)))
    · refine .skip (.nsq (.seq (.block (.seq (rg (gm h0 fun h11 => gm h4 fun h12 => ?_))))))
      obtain ⟨q_15, E_q_15, h⟩ := bind_some h
      refine gv (ji q_15) (ev_shr h11 h12 E_q_15) fun h13 => ?_
      refine g1 13 (ji (iand .i64 q_15 1)) h13 fun h14 => ?_
      refine g1 14 (jb ((iand .i64 q_15 1) == 1)) h14 fun h15 => ?_
      refine gq (.nsq (run_cond (t := ((iand .i64 q_15 1) == 1)) h15 h (fun h => ?_) (fun h => ?_)))
      · refine run_reg ?_
        refine e_clr ?_
        refine ez [(0, _), (2, _), (3, _), (4, _), (18, _), (19, _)] ⟨(keep_clear (pk := [18, 19]) h0 rfl mi), (keep_clear (pk := [18, 19]) h2 rfl rfl), (keep_clear (pk := [18, 19]) h3 rfl (map_encO (r := 3) (p := []) rfl rfl)), (keep_clear (pk := [18, 19]) h4 rfl mi), (gone_clear (pk := [18, 19]) (t := 18) rfl), (gone_clear (pk := [18, 19]) (t := 19) rfl)⟩ ?_
        rintro s ⟨h0, h2, h3, h4, h18, h19⟩
        refine gv (oI 3 [] x_7) (ev_mov h3 ok_encO) fun h16 => ?_
        refine gm h4 fun h17 => g_litL [(17, (ji x_8))] [Enc.enc (x_8 : Int)] h17 rfl rfl h18 ?_
        obtain ⟨ap_18, E_ap_18, h⟩ := bind_some h
        refine g_app (q := 3) (p := []) (o := (x_7 : NL Int)) (ys := ([x_8] : List Int)) (t2 := (.at 18 [])) (lo2 := 0) h16 rfl rfl h19 (appN_L (o := (x_7 : NL Int)) E_ap_18 (by split <;> simp)) (fun s_17 ha_17 => ?_)
        refine gm (rfl : (_ : V) = (oI 19 [] (.of ap_18))) fun h3 => ?_
        refine g_end ?_
        refine e_home (r := 19) (x := 3) (v := _) h3 rfl (fun s_18 hg_18 => ?_)
        refine ez [(0, (ji x_1)), (2, (.sl .nl (Enc.shp Int) 0 [])), (3, (oI 3 [] (.of ap_18))), (4, (ji x_8))] ⟨(hg_18 0 _ _ (show s_17 0 = (ji x_1) from keep_app ha_17 h0 mi) mi), (hg_18 2 _ (.sl .nl (Enc.shp Int) 0 []) (show s_17 2 = (.sl .nl (Enc.shp Int) 0 []) from keep_app ha_17 h2 rfl) rfl), (hg_18 3 _ _ h3 (map_encO (r := 19) (p := []) rfl rfl)), (hg_18 4 _ _ (show s_17 4 = (ji x_8) from keep_app ha_17 h4 mi) mi)⟩ ?_
        rintro s ⟨h0, h2, h3, h4⟩
        exact t_f83_j1 H x_1 x_8 (i_setOf_l1 F x_1 k) ih (.of ap_18) _ ⟨h0, h2, h3, h4⟩ h
      refine .skip ?_
      exact t_f83_j1 H x_1 x_8 (i_setOf_l1 F x_1 k) ih x_7 _ ⟨h0, h2, h3, h4⟩ h
    refine .exit (.esq (.elp (.ebk (.nsq (.seq (rg (gv (oI 3 [] x_7) (ev_mov h3 ok_encO) fun h20 => ?_)))))))
    refine gv (oI 3 [] x_7) (ev_mov h20 ok_encO) fun h2 => ?_
    refine g_end ?_
    refine e_home (r := 3) (x := 2) (v := _) h2 ok_encO (fun s_19 hg_19 => ?_)
    refine ez [(2, (oI 2 [] x_7))] (hg_19 2 _ _ h2 (map_encO (r := 3) (p := []) rfl rfl)) ?_
    rintro s h2
    refine .nsq (.ret ?_)
    have hr := Option.some.inj h
    subst hr
    exact rrA (res_tmp h2) (fin_retF (fin_own (o := x_7)) (mine_own rfl))
def i_setOf (F : Nat) (x_1 : Int) : Option (List Int) :=
  i_setOf_l1 F x_1 F .nil 0
theorem t83 (H : H83 D σ F) (x_1 : Int) (s : Nat → V) (hs : Facts [(0, (ji x_1))] s) (h : i_setOf F x_1 = some r) : Run D σ (R83 r) (.run A83 []) s := by
  unfold i_setOf at h
  have h0 := hs
  refine .seq (rg (g0 (.sl .nl (Enc.shp Int) 0 []) fun h2 => ?_))
  refine gq (.nsq (.seq (rg (g0 (.sl .nl (Enc.shp Int) 0 []) fun h3 => ?_))))
  refine gq (.nsq (.seq (.seq (rg (g0 (ji 0) fun h4 => gq (.nsq (.block (.loop ?_))))))))
  exact t_f83_l1 H x_1 F .nil 0 _ ⟨h0, h2, h3, h4⟩ h
end
def e83 (F : Nat) : Ent := ent 83 (fun (x : (Int × Unit)) => i_setOf F x.1) (fun (r : (List Int)) => (Enc.enc (r : (List Int)))) 0 false []
theorem p83 {F : Nat} {x0 : Int} {r : (List Int)} (h : i_setOf F x0 = some r) : (e83 F).den [Enc.enc x0] = some (Enc.enc (r : (List Int))) := ent_put (x0, ()) h
theorem o83 {D : Den} {σ : Sig} {F : Nat} (hF : Fits2 Try.prog D σ) (H : H83 D σ F) : (e83 F).Ok Try.prog := by
  refine ok_of (f := 83) (show unk 83 = 83 from rfl) (fun args r h => ?_) ⟨Try.f83, Try.func83, rfl, rfl⟩
  obtain ⟨⟨x0, _⟩, y, rfl, hy, rfl⟩ := da_open h
  exact contract_run hF (by kernel_rfl) Try.func83 rfl c83 (show 1 ≤ Try.f83.ntmps by decide) (t83 H x0 _ rfl hy)
/- (loop.example/g01109/impl.net).front -/
def A84_5 : AC := (.cond (.t 22) (.reg [] [(jm 23 5), (jm 24 7), ((jv 25 (.bin .shl (jn 1) (.t 24)))), ((jv 26 (.bin .or (.t 23) (.t 25)))), (jm 5 26)] []) .skip)
def A84_4 : AC := (.seq (.reg [] [((jv 15 (.fld (.t 2) 0 0))), ((jv 16 (.load .p (.t 15)))), (jm 17 7), ((jv 18 (.idx (.t 16) (.t 17) 1))), ((jv 19 (.load .s (.t 18)))), (jm 20 1), ((jv 21 (.bin .andNot (.t 19) (.t 20)))), ((jv 22 (.bin .neq (.t 21) (jn 0))))] []) A84_5)
def A84_6 : AC := (.reg [] [((jv 27 (.bin .add (.t 11) (jn 1)))), (jm 11 27)] [])
def A84_3 : AC := (.seq (.block 1 (.seq (.reg [] [((jv 13 (.idx (.t 9) (.t 11) 1))), ((jv 14 (.load .s (.t 13)))), (jm 7 14)] []) A84_4)) A84_6)
def A84_2 : AC := (.seq (.cond (.t 12) .skip (.exit 0)) A84_3)
def A84_1 : AC := (.seq (.reg [] [((jv 12 (.bin .lss (.t 11) (.t 10))))] []) A84_2)
def A84_7 : AC := (.seq (.reg [] [(jm 28 5), (jm 4 28)] []) .ret)
def A84_10 : AC := (.block 0 (.loop A84_1))
def A84_9 : AC := (.seq (.seq (.reg [] [(jm 8 1), (.mk (some 9) none false (.call (.k (.fn 83 [] [])) [(.t 8)])), ((jv 10 (.len (.t 9)))), ((jv 11 (.mov (jn 0))))] []) A84_10) A84_7)
def A84_8 : AC := (.seq (.reg [] [((jv 5 (.mov (jn 0))))] []) A84_9)
def A84 : AC := (.seq (.reg [.clr [2]] [(.mk (some 2) none false (.box (.t 0))), ((jv 4 (.mov (jn 0))))] []) A84_8)
def an84 : List An := [{ id := 0, pre := [.clr [2]], ep := [], lin := [], sp := [] }]
theorem c84 : cC Try.prog Try.f84.ntmps an84 (Try.f84.body.getD .skip) = some A84 := by kernel_rfl
structure H84 (D : Den) (σ : Sig) (F : Nat) : Prop where
  c83 : ∀ (x0 : Int) r, i_setOf F x0 = some r → D 83 [Enc.enc x0] = some (Enc.enc (r : (List Int)))
  g83 : σ 83 = some (0, false)
abbrev R84 (r : Int) : (Nat → V) → Prop := RR Try.prog [.tmp 4] 0 false (Enc.enc (r : Int))
section
variable {D : Den} {σ : Sig} {F : Nat} {r : Int}
def i_net_front_j1 (F : Nat) (x_2 : Int) (x_1 : (S1 (List Int))) (r_3 : (List Int)) (x_10 : Int) (c1 : Int → Int → Option Int) (x_19 : Int) : Option Int :=
  c1 x_19 (w64 (x_10 + 1))
theorem t_f84_j1 (H : H84 D σ F) (x_2 : Int) (x_1 : (S1 (List Int))) (r_3 : (List Int)) (x_10 : Int) (c1 : Int → Int → Option Int) (Hc1 : ∀ (x_9 : Int) (x_10 : Int) (s : Nat → V), Facts [(1, (ji x_2)), (2, (.ref (.bx 2) 0 [] (.agg [(eL x_1.a)]))), (4, (ji 0)), (5, (ji x_9)), (9, (eL r_3)), (10, (ji (r_3.length : Int))), (11, (ji x_10))] s → c1 x_9 x_10 = some r → Run D σ (R84 r) (.run A84_1 [.lp A84_1, .bk 0, .sq A84_7]) s) (x_19 : Int) (s : Nat → V) (hs : Facts [(1, (ji x_2)), (2, (.ref (.bx 2) 0 [] (.agg [(eL x_1.a)]))), (4, (ji 0)), (5, (ji x_19)), (9, (eL r_3)), (10, (ji (r_3.length : Int))), (11, (ji x_10))] s) (h : i_net_front_j1 F x_2 x_1 r_3 x_10 c1 x_19 = some r) : Run D σ (R84 r) (.nrm [.bk 1, .sq A84_6, .lp A84_1, .bk 0, .sq A84_7]) s := by
  unfold i_net_front_j1 at h
  obtain ⟨h1, h2, h4, h5, h9, h10, h11⟩ := hs
  refine .nbk (.nsq (rg (g1 11 (ji (w64 (x_10 + 1))) h11 fun h27 => ?_)))
  refine gm h27 fun h11 => gq (.nlp ?_)
  exact Hc1 x_19 (w64 (x_10 + 1)) _ ⟨h1, h2, h4, h5, h9, h10, h11⟩ h
def i_net_front_l1 (F : Nat) (x_2 : Int) (x_1 : (S1 (List Int))) (r_3 : (List Int))  : Nat → Int → Int → Option Int
  | 0, _, _ => none
  | k + 1, x_9, x_10 =>
    bif decide (x_10 < (r_3.length : Int)) then
      (idx r_3 x_10).bind fun e_16 =>
      (idx x_1.a e_16).bind fun e_17 =>
      bif ((iandNot .i64 e_17 x_2) != 0) then
        (shlI .i64 1 e_16).bind fun q_20 =>
        i_net_front_j1 F x_2 x_1 r_3 x_10 (i_net_front_l1 F x_2 x_1 r_3 k) (ior .i64 x_9 q_20)
      else
        i_net_front_j1 F x_2 x_1 r_3 x_10 (i_net_front_l1 F x_2 x_1 r_3 k) x_9
    else
      some x_9
theorem t_f84_l1 (H : H84 D σ F) (x_2 : Int) (x_1 : (S1 (List Int))) (r_3 : (List Int))  : ∀ (k : Nat) (x_9 : Int) (x_10 : Int) (s : Nat → V), Facts [(1, (ji x_2)), (2, (.ref (.bx 2) 0 [] (.agg [(eL x_1.a)]))), (4, (ji 0)), (5, (ji x_9)), (9, (eL r_3)), (10, (ji (r_3.length : Int))), (11, (ji x_10))] s → i_net_front_l1 F x_2 x_1 r_3 k x_9 x_10 = some r → Run D σ (R84 r) (.run A84_1 [.lp A84_1, .bk 0, .sq A84_7]) s := by
  intro k
  induction k with
  | zero => intro x_9 x_10 s _ h; exact nomatch (h : (none : Option _) = some r)
  | succ k ih =>
    intro x_9 x_10 s hs h
    rw [i_net_front_l1] at h
    obtain ⟨h1, h2, h4, h5, h9, h10, h11⟩ := hs
    refine .seq (rg (g2 11 10 (jb (decide (x_10 < (r_3.length : Int)))) h11 h10 fun h12 => ?_))
    refine gq (.nsq (.seq (run_cond (t := decide (x_10 < (r_3.length : Int))) h12 h (fun h => ?_) (fun h => ?_))))
    · refine .skip (.nsq (.seq (.block (.seq (rg ?_)))))
      obtain ⟨e_16, E_e_16, h⟩ := bind_some h
      refine gv (.ref .sh 0 [] (ji e_16)) (ev_idx (t := .sh) (lo := 0) (xs := r_3) h9 h11 E_e_16 rfl rfl) fun h13 => ?_
      refine g1 13 (ji e_16) h13 fun h14 => ?_
      refine gm h14 fun h7 => gq (.nsq (.seq (rg (g1 2 (.ref (.bx 2) 0 [0] (eL x_1.a)) h2 fun h15 => ?_))))
      refine g1 15 (eL x_1.a) h15 fun h16 => ?_
      refine gm h7 fun h17 => ?_
      obtain ⟨e_17, E_e_17, h⟩ := bind_some h
      refine gv (.ref .sh 0 [] (ji e_17)) (ev_idx (t := .sh) (lo := 0) (xs := x_1.a) h16 h17 E_e_17 rfl rfl) fun h18 => ?_
      refine g1 18 (ji e_17) h18 fun h19 => ?_
      refine gm h1 fun h20 => g2 19 20 (ji (iandNot .i64 e_17 x_2)) h19 h20 fun h21 => ?_
      refine g1 21 (jb ((iandNot .i64 e_17 x_2) != 0)) h21 fun h22 => ?_
      refine gq (.nsq (run_cond (t := ((iandNot .i64 e_17 x_2) != 0)) h22 h (fun h => ?_) (fun h => ?_)))
      · refine rg (gm h5 fun h23 => gm h7 fun h24 => ?_)
        obtain ⟨q_20, E_q_20, h⟩ := bind_some h
        refine gv (ji q_20) (ev_shl rfl h24 E_q_20) fun h25 => ?_
        refine g2 23 25 (ji (ior .i64 x_9 q_20)) h23 h25 fun h26 => ?_
        refine gm h26 fun h5 => gq ?_
        exact t_f84_j1 H x_2 x_1 r_3 x_10 (i_net_front_l1 F x_2 x_1 r_3 k) ih (ior .i64 x_9 q_20) _ ⟨h1, h2, h4, h5, h9, h10, h11⟩ h
      refine .skip ?_
      exact t_f84_j1 H x_2 x_1 r_3 x_10 (i_net_front_l1 F x_2 x_1 r_3 k) ih x_9 _ ⟨h1, h2, h4, h5, h9, h10, h11⟩ h
    refine .exit (.esq (.elp (.ebk (.nsq (.seq (rg (gm h5 fun h28 => gm h28 fun h4 => gq (.nsq (.ret ?_)))))))))
    have hr := Option.some.inj h
    subst hr
    exact rrA (res_tmp h4) rfl
def i_net_front (F : Nat) (x_1 : (S1 (List Int))) (x_2 : Int) : Option Int :=
  (i_setOf F x_2).bind fun r_3 =>
  i_net_front_l1 F x_2 x_1 r_3 F 0 0
theorem t84 (H : H84 D σ F) (x_1 : (S1 (List Int))) (x_2 : Int) (s : Nat → V) (hs : Facts [(0, (.agg [(eL x_1.a)])), (1, (ji x_2))] s) (h : i_net_front F x_1 x_2 = some r) : Run D σ (R84 r) (.run A84 []) s := by
  unfold i_net_front at h
  obtain ⟨h0, h1⟩ := hs
  refine .seq (run_reg ?_)
  refine e_clr ?_
  refine ez [(0, _), (1, _), (2, _)] ⟨(keep_clear (pk := [2]) h0 rfl (map_agg (maps_cons me maps_nil))), (keep_clear (pk := [2]) h1 rfl mi), (gone_clear (pk := [2]) (t := 2) rfl)⟩ ?_
  rintro s ⟨h0, h1, h2⟩
  refine g_box (.agg [(eL x_1.a)]) (rd_of h0 rfl) h2 rfl ?_
  refine g0 (ji 0) fun h4 => gq (.nsq (.seq (rg (g0 (ji 0) fun h5 => gq (.nsq (.seq (.seq (rg (gm h1 fun h8 => ?_)))))))))
  obtain ⟨r_3, E_r_3, h⟩ := bind_some h
  refine g_call (m := 0) (al := false) (r := (Enc.enc (r_3 : (List Int)))) [Enc.enc (x_2 : Int)] (ta_cons (v := (ji x_2)) h8 rfl rfl ta_nil) (H.c83 _ _ E_r_3) H.g83 rfl rfl rfl rfl ?_
  refine gv (ji (r_3.length : Int)) (ev_len (xs := r_3) rfl) fun h10 => ?_
  refine g0 (ji 0) fun h11 => gq (.nsq (.block (.loop ?_)))
  exact t_f84_l1 H x_2 x_1 r_3 F 0 0 _ ⟨h1, rfl, h4, h5, rfl, h10, h11⟩ h
end
def e84 (F : Nat) : Ent := ent 84 (fun (x : ((S1 (List Int)) × Int × Unit)) => i_net_front F x.1 x.2.1) (fun (r : Int) => (Enc.enc (r : Int))) 0 false []
theorem p84 {F : Nat} {x0 : (S1 (List Int))} {x1 : Int} {r : Int} (h : i_net_front F x0 x1 = some r) : (e84 F).den [Enc.enc x0, Enc.enc x1] = some (Enc.enc (r : Int)) := ent_put (x0, x1, ()) h
theorem o84 {D : Den} {σ : Sig} {F : Nat} (hF : Fits2 Try.prog D σ) (H : H84 D σ F) : (e84 F).Ok Try.prog := by
  refine ok_of (f := 84) (show unk 84 = 84 from rfl) (fun args r h => ?_) ⟨Try.f84, Try.func84, rfl, rfl⟩
  obtain ⟨⟨x0, x1, _⟩, y, rfl, hy, rfl⟩ := da_open h
  exact contract_run hF (by kernel_rfl) Try.func84 rfl c84 (show 2 ≤ Try.f84.ntmps by decide) (t84 H x0 x1 _ ⟨rfl, rfl⟩ hy)
/- math/bits.OnesCount64 -/
def A184_7 : AC := (.seq (.reg [] [(jm 32 0), ((jv 33 (.conv .i64 (.t 32)))), ((jv 34 (.bin .and (.t 33) (jn 127)))), (jm 2 34)] []) .ret)
def A184_6 : AC := (.seq (.reg [] [(jm 28 0), (jm 29 0), ((jv 30 (.bin .shr (.t 29) (.k (.int .u64 (.ofNat 32)))))), ((jv 31 (.bin .add (.t 28) (.t 30)))), (jm 0 31)] []) A184_7)
def A184_5 : AC := (.seq (.reg [] [(jm 24 0), (jm 25 0), ((jv 26 (.bin .shr (.t 25) (.k (.int .u64 (.ofNat 16)))))), ((jv 27 (.bin .add (.t 24) (.t 26)))), (jm 0 27)] []) A184_6)
def A184_4 : AC := (.seq (.reg [] [(jm 20 0), (jm 21 0), ((jv 22 (.bin .shr (.t 21) (.k (.int .u64 (.ofNat 8)))))), ((jv 23 (.bin .add (.t 20) (.t 22)))), (jm 0 23)] []) A184_5)
def A184_3 : AC := (.seq (.reg [] [(jm 15 0), ((jv 16 (.bin .shr (.t 15) (.k (.int .u64 (.ofNat 4)))))), (jm 17 0), ((jv 18 (.bin .add (.t 16) (.t 17)))), ((jv 19 (.bin .and (.t 18) (.k (.int .u64 (.ofNat 1085102592571150095)))))), (jm 0 19)] []) A184_4)
def A184_2 : AC := (.seq (.reg [] [(jm 9 0), ((jv 10 (.bin .shr (.t 9) (.k (.int .u64 (.ofNat 2)))))), ((jv 11 (.bin .and (.t 10) (.k (.int .u64 (.ofNat 3689348814741910323)))))), (jm 12 0), ((jv 13 (.bin .and (.t 12) (.k (.int .u64 (.ofNat 3689348814741910323)))))), ((jv 14 (.bin .add (.t 11) (.t 13)))), (jm 0 14)] []) A184_3)
def A184_1 : AC := (.seq (.reg [] [(jm 3 0), ((jv 4 (.bin .shr (.t 3) (.k (.int .u64 (.ofNat 1)))))), ((jv 5 (.bin .and (.t 4) (.k (.int .u64 (.ofNat 6148914691236517205)))))), (jm 6 0), ((jv 7 (.bin .and (.t 6) (.k (.int .u64 (.ofNat 6148914691236517205)))))), ((jv 8 (.bin .add (.t 5) (.t 7)))), (jm 0 8)] []) A184_2)
def A184 : AC := (.seq (.reg [] [((jv 2 (.mov (jn 0))))] []) A184_1)
def an184 : List An := []
theorem c184 : cC Try.prog Try.f184.ntmps an184 (Try.f184.body.getD .skip) = some A184 := by kernel_rfl
structure H184 (D : Den) (σ : Sig) (F : Nat) : Prop where
  mk ::
abbrev R184 (r : Int) : (Nat → V) → Prop := RR Try.prog [.tmp 2] 0 false (Enc.enc (r : Int))
section
variable {D : Den} {σ : Sig} {F : Nat} {r : Int}
def bits_OnesCount64 (F : Nat) (x_1 : (Kd .u64)) : Option Int :=
  (shrI .u64 x_1.v 1).bind fun q_2 =>
  (shrI .u64 (IntKind.u64.wrap ((iand .u64 q_2 6148914691236517205) + (iand .u64 x_1.v 6148914691236517205))) 2).bind fun q_3 =>
  (shrI .u64 (IntKind.u64.wrap ((iand .u64 q_3 3689348814741910323) + (iand .u64 (IntKind.u64.wrap ((iand .u64 q_2 6148914691236517205) + (iand .u64 x_1.v 6148914691236517205))) 3689348814741910323))) 4).bind fun q_4 =>
  (shrI .u64 (iand .u64 (IntKind.u64.wrap (q_4 + (IntKind.u64.wrap ((iand .u64 q_3 3689348814741910323) + (iand .u64 (IntKind.u64.wrap ((iand .u64 q_2 6148914691236517205) + (iand .u64 x_1.v 6148914691236517205))) 3689348814741910323))))) 1085102592571150095) 8).bind fun q_5 =>
  (shrI .u64 (IntKind.u64.wrap ((iand .u64 (IntKind.u64.wrap (q_4 + (IntKind.u64.wrap ((iand .u64 q_3 3689348814741910323) + (iand .u64 (IntKind.u64.wrap ((iand .u64 q_2 6148914691236517205) + (iand .u64 x_1.v 6148914691236517205))) 3689348814741910323))))) 1085102592571150095) + q_5)) 16).bind fun q_6 =>
  (shrI .u64 (IntKind.u64.wrap ((IntKind.u64.wrap ((iand .u64 (IntKind.u64.wrap (q_4 + (IntKind.u64.wrap ((iand .u64 q_3 3689348814741910323) + (iand .u64 (IntKind.u64.wrap ((iand .u64 q_2 6148914691236517205) + (iand .u64 x_1.v 6148914691236517205))) 3689348814741910323))))) 1085102592571150095) + q_5)) + q_6)) 32).bind fun q_7 =>
  some (iand .i64 (w64 (IntKind.u64.wrap ((IntKind.u64.wrap ((IntKind.u64.wrap ((iand .u64 (IntKind.u64.wrap (q_4 + (IntKind.u64.wrap ((iand .u64 q_3 3689348814741910323) + (iand .u64 (IntKind.u64.wrap ((iand .u64 q_2 6148914691236517205) + (iand .u64 x_1.v 6148914691236517205))) 3689348814741910323))))) 1085102592571150095) + q_5)) + q_6)) + q_7))) 127)
theorem t184 (H : H184 D σ F) (x_1 : (Kd .u64)) (s : Nat → V) (hs : Facts [(0, (.int .u64 x_1.v))] s) (h : bits_OnesCount64 F x_1 = some r) : Run D σ (R184 r) (.run A184 []) s := by
  unfold bits_OnesCount64 at h
  have h0 := hs
  refine .seq (rg (g0 (ji 0) fun h2 => gq (.nsq (.seq (rg (gm h0 fun h3 => ?_))))))
  obtain ⟨q_2, E_q_2, h⟩ := bind_some h
  refine gv (.int .u64 q_2) (ev_shr h3 rfl E_q_2) fun h4 => ?_
  refine g1 4 (.int .u64 (iand .u64 q_2 6148914691236517205)) h4 fun h5 => ?_
  refine gm h0 fun h6 => g1 6 (.int .u64 (iand .u64 x_1.v 6148914691236517205)) h6 fun h7 => ?_
  refine g2 5 7 (.int .u64 (IntKind.u64.wrap ((iand .u64 q_2 6148914691236517205) + (iand .u64 x_1.v 6148914691236517205)))) h5 h7 fun h8 => ?_
  refine gm h8 fun h0 => gq (.nsq (.seq (rg (gm h0 fun h9 => ?_))))
  obtain ⟨q_3, E_q_3, h⟩ := bind_some h
  refine gv (.int .u64 q_3) (ev_shr h9 rfl E_q_3) fun h10 => ?_
  refine g1 10 (.int .u64 (iand .u64 q_3 3689348814741910323)) h10 fun h11 => ?_
  refine gm h0 fun h12 => g1 12 (.int .u64 (iand .u64 (IntKind.u64.wrap ((iand .u64 q_2 6148914691236517205) + (iand .u64 x_1.v 6148914691236517205))) 3689348814741910323)) h12 fun h13 => ?_
  refine g2 11 13 (.int .u64 (IntKind.u64.wrap ((iand .u64 q_3 3689348814741910323) + (iand .u64 (IntKind.u64.wrap ((iand .u64 q_2 6148914691236517205) + (iand .u64 x_1.v 6148914691236517205))) 3689348814741910323)))) h11 h13 fun h14 => ?_
  refine gm h14 fun h0 => gq (.nsq (.seq (rg (gm h0 fun h15 => ?_))))
  obtain ⟨q_4, E_q_4, h⟩ := bind_some h
  refine gv (.int .u64 q_4) (ev_shr h15 rfl E_q_4) fun h16 => ?_
  refine gm h0 fun h17 => g2 16 17 (.int .u64 (IntKind.u64.wrap (q_4 + (IntKind.u64.wrap ((iand .u64 q_3 3689348814741910323) + (iand .u64 (IntKind.u64.wrap ((iand .u64 q_2 6148914691236517205) + (iand .u64 x_1.v 6148914691236517205))) 3689348814741910323)))))) h16 h17 fun h18 => ?_
  refine g1 18 (.int .u64 (iand .u64 (IntKind.u64.wrap (q_4 + (IntKind.u64.wrap ((iand .u64 q_3 3689348814741910323) + (iand .u64 (IntKind.u64.wrap ((iand .u64 q_2 6148914691236517205) + (iand .u64 x_1.v 6148914691236517205))) 3689348814741910323))))) 1085102592571150095)) h18 fun h19 => ?_
  refine gm h19 fun h0 => gq (.nsq (.seq (rg (gm h0 fun h20 => gm h0 fun h21 => ?_))))
  obtain ⟨q_5, E_q_5, h⟩ := bind_some h
  refine gv (.int .u64 q_5) (ev_shr h21 rfl E_q_5) fun h22 => ?_
  refine g2 20 22 (.int .u64 (IntKind.u64.wrap ((iand .u64 (IntKind.u64.wrap (q_4 + (IntKind.u64.wrap ((iand .u64 q_3 3689348814741910323) + (iand .u64 (IntKind.u64.wrap ((iand .u64 q_2 6148914691236517205) + (iand .u64 x_1.v 6148914691236517205))) 3689348814741910323))))) 1085102592571150095) + q_5))) h20 h22 fun h23 => ?_
  refine gm h23 fun h0 => gq (.nsq (.seq (rg (gm h0 fun h24 => gm h0 fun h25 => ?_))))
  obtain ⟨q_6, E_q_6, h⟩ := bind_some h
  refine gv (.int .u64 q_6) (ev_shr h25 rfl E_q_6) fun h26 => ?_
  refine g2 24 26 (.int .u64 (IntKind.u64.wrap ((IntKind.u64.wrap ((iand .u64 (IntKind.u64.wrap (q_4 + (IntKind.u64.wrap ((iand .u64 q_3 3689348814741910323) + (iand .u64 (IntKind.u64.wrap ((iand .u64 q_2 6148914691236517205) + (iand .u64 x_1.v 6148914691236517205))) 3689348814741910323))))) 1085102592571150095) + q_5)) + q_6))) h24 h26 fun h27 => ?_
  refine gm h27 fun h0 => gz [(0, _), (2, _)] ⟨h0, h2⟩ ?_
  rintro s ⟨h0, h2⟩
  refine .nsq (.seq (rg (gm h0 fun h28 => gm h0 fun h29 => ?_)))
  obtain ⟨q_7, E_q_7, h⟩ := bind_some h
  refine gv (.int .u64 q_7) (ev_shr h29 rfl E_q_7) fun h30 => ?_
  refine g2 28 30 (.int .u64 (IntKind.u64.wrap ((IntKind.u64.wrap ((IntKind.u64.wrap ((iand .u64 (IntKind.u64.wrap (q_4 + (IntKind.u64.wrap ((iand .u64 q_3 3689348814741910323) + (iand .u64 (IntKind.u64.wrap ((iand .u64 q_2 6148914691236517205) + (iand .u64 x_1.v 6148914691236517205))) 3689348814741910323))))) 1085102592571150095) + q_5)) + q_6)) + q_7))) h28 h30 fun h31 => ?_
  refine gm h31 fun h0 => gq (.nsq (.seq (rg (gm h0 fun h32 => g1 32 (ji (w64 (IntKind.u64.wrap ((IntKind.u64.wrap ((IntKind.u64.wrap ((iand .u64 (IntKind.u64.wrap (q_4 + (IntKind.u64.wrap ((iand .u64 q_3 3689348814741910323) + (iand .u64 (IntKind.u64.wrap ((iand .u64 q_2 6148914691236517205) + (iand .u64 x_1.v 6148914691236517205))) 3689348814741910323))))) 1085102592571150095) + q_5)) + q_6)) + q_7)))) h32 fun h33 => ?_))))
  refine g1 33 (ji (iand .i64 (w64 (IntKind.u64.wrap ((IntKind.u64.wrap ((IntKind.u64.wrap ((iand .u64 (IntKind.u64.wrap (q_4 + (IntKind.u64.wrap ((iand .u64 q_3 3689348814741910323) + (iand .u64 (IntKind.u64.wrap ((iand .u64 q_2 6148914691236517205) + (iand .u64 x_1.v 6148914691236517205))) 3689348814741910323))))) 1085102592571150095) + q_5)) + q_6)) + q_7))) 127)) h33 fun h34 => ?_
  refine gm h34 fun h2 => gq (.nsq (.ret ?_))
  have hr := Option.some.inj h
  subst hr
  exact rrA (res_tmp h2) rfl
end
def e184 (F : Nat) : Ent := ent 184 (fun (x : ((Kd .u64) × Unit)) => bits_OnesCount64 F x.1) (fun (r : Int) => (Enc.enc (r : Int))) 0 false []
theorem p184 {F : Nat} {x0 : (Kd .u64)} {r : Int} (h : bits_OnesCount64 F x0 = some r) : (e184 F).den [Enc.enc x0] = some (Enc.enc (r : Int)) := ent_put (x0, ()) h
theorem o184 {D : Den} {σ : Sig} {F : Nat} (hF : Fits2 Try.prog D σ) (H : H184 D σ F) : (e184 F).Ok Try.prog := by
  refine ok_of (f := 184) (show unk 184 = 184 from rfl) (fun args r h => ?_) ⟨Try.f184, Try.func184, rfl, rfl⟩
  obtain ⟨⟨x0, _⟩, y, rfl, hy, rfl⟩ := da_open h
  exact contract_run hF (by kernel_rfl) Try.func184 rfl c184 (show 1 ≤ Try.f184.ntmps by decide) (t184 H x0 _ rfl hy)
/- math/bits.OnesCount -/
def A161_2 : AC := (.seq (.reg [] [(jm 6 0), (.mk (some 7) none false (.call (.k (.fn 184 [] [])) [(.t 6)])), (jm 2 7)] []) .ret)
def A161_1 : AC := (.seq (.cond (.k (.bool false)) (.seq (.reg [] [(jm 3 0), ((jv 4 (.conv .u32 (.t 3)))), (.mk (some 5) none false (.call (.k (.fn 183 [] [])) [(.t 4)])), (jm 2 5)] []) .ret) .skip) A161_2)
def A161 : AC := (.seq (.reg [] [((jv 2 (.mov (jn 0))))] []) A161_1)
def an161 : List An := []
theorem c161 : cC Try.prog Try.f161.ntmps an161 (Try.f161.body.getD .skip) = some A161 := by kernel_rfl
structure H161 (D : Den) (σ : Sig) (F : Nat) : Prop where
  c184 : ∀ (x0 : (Kd .u64)) r, bits_OnesCount64 F x0 = some r → D 184 [Enc.enc x0] = some (Enc.enc (r : Int))
  g184 : σ 184 = some (0, false)
abbrev R161 (r : Int) : (Nat → V) → Prop := RR Try.prog [.tmp 2] 0 false (Enc.enc (r : Int))
section
variable {D : Den} {σ : Sig} {F : Nat} {r : Int}
def bits_OnesCount (F : Nat) (x_1 : (Kd .u64)) : Option Int :=
  (bits_OnesCount64 F (Kd.mk x_1.v : Kd .u64)).bind fun r_2 =>
  some r_2
theorem t161 (H : H161 D σ F) (x_1 : (Kd .u64)) (s : Nat → V) (hs : Facts [(0, (.int .u64 x_1.v))] s) (h : bits_OnesCount F x_1 = some r) : Run D σ (R161 r) (.run A161 []) s := by
  unfold bits_OnesCount at h
  have h0 := hs
  refine .seq (rg (g0 (ji 0) fun h2 => gq (.nsq (.seq (run_condF rfl ?_)))))
  refine .skip (.nsq (.seq (rg (gm h0 fun h6 => ?_))))
  obtain ⟨r_2, E_r_2, h⟩ := bind_some h
  refine g_call (m := 0) (al := false) (r := (Enc.enc (r_2 : Int))) [Enc.enc ((Kd.mk x_1.v : Kd .u64) : (Kd .u64))] (ta_cons (v := (.int .u64 x_1.v)) h6 rfl rfl ta_nil) (H.c184 _ _ E_r_2) H.g184 rfl rfl rfl rfl ?_
  refine gm (rfl : (_ : V) = (ji r_2)) fun h2 => ?_
  refine gq (.nsq (.ret ?_))
  have hr := Option.some.inj h
  subst hr
  exact rrA (res_tmp h2) rfl
end
def e161 (F : Nat) : Ent := ent 161 (fun (x : ((Kd .u64) × Unit)) => bits_OnesCount F x.1) (fun (r : Int) => (Enc.enc (r : Int))) 0 false []
theorem p161 {F : Nat} {x0 : (Kd .u64)} {r : Int} (h : bits_OnesCount F x0 = some r) : (e161 F).den [Enc.enc x0] = some (Enc.enc (r : Int)) := ent_put (x0, ()) h
theorem o161 {D : Den} {σ : Sig} {F : Nat} (hF : Fits2 Try.prog D σ) (H : H161 D σ F) : (e161 F).Ok Try.prog := by
  refine ok_of (f := 161) (show unk 161 = 161 from rfl) (fun args r h => ?_) ⟨Try.f161, Try.func161, rfl, rfl⟩
  obtain ⟨⟨x0, _⟩, y, rfl, hy, rfl⟩ := da_open h
  exact contract_run hF (by kernel_rfl) Try.func161 rfl c161 (show 1 ≤ Try.f161.ntmps by decide) (t161 H x0 _ rfl hy)
/- (loop.example/g01109/impl.net).frontSize -/
def A165_1 : AC := (.seq (.reg [] [((jv 7 (.load (.ag [.p]) (.t 3)))), (jm 8 1), (jm 9 2), ((jv 10 (.bin .shl (jn 1) (.t 9)))), ((jv 11 (.bin .or (.t 8) (.t 10)))), (.mk (some 12) none false (.call (.k (.fn 84 [] [])) [(.t 7), (.t 11)])), ((jv 13 (.conv .u64 (.t 12)))), (.mk (some 14) none false (.call (.k (.fn 161 [] [])) [(.t 13)])), (jm 6 14)] []) .ret)
def A165 : AC := (.seq (.reg [.clr [3]] [(.mk (some 3) none false (.box (.t 0))), ((jv 6 (.mov (jn 0))))] []) A165_1)
def an165 : List An := [{ id := 0, pre := [.clr [3]], ep := [], lin := [], sp := [] }]
theorem c165 : cC Try.prog Try.f165.ntmps an165 (Try.f165.body.getD .skip) = some A165 := by kernel_rfl
structure H165 (D : Den) (σ : Sig) (F : Nat) : Prop where
  c84 : ∀ (x0 : (S1 (List Int))) (x1 : Int) r, i_net_front F x0 x1 = some r → D 84 [Enc.enc x0, Enc.enc x1] = some (Enc.enc (r : Int))
  g84 : σ 84 = some (0, false)
  c161 : ∀ (x0 : (Kd .u64)) r, bits_OnesCount F x0 = some r → D 161 [Enc.enc x0] = some (Enc.enc (r : Int))
  g161 : σ 161 = some (0, false)
abbrev R165 (r : Int) : (Nat → V) → Prop := RR Try.prog [.tmp 6] 0 false (Enc.enc (r : Int))
section
variable {D : Den} {σ : Sig} {F : Nat} {r : Int}
def i_net_frontSize (F : Nat) (x_1 : (S1 (List Int))) (x_2 : Int) (x_3 : Int) : Option Int :=
  (shlI .i64 1 x_3).bind fun q_4 =>
  (i_net_front F x_1 (ior .i64 x_2 q_4)).bind fun r_5 =>
  (bits_OnesCount F (Kd.mk (IntKind.u64.wrap r_5) : Kd .u64)).bind fun r_6 =>
  some r_6
theorem t165 (H : H165 D σ F) (x_1 : (S1 (List Int))) (x_2 : Int) (x_3 : Int) (s : Nat → V) (hs : Facts [(0, (.agg [(eL x_1.a)])), (1, (ji x_2)), (2, (ji x_3))] s) (h : i_net_frontSize F x_1 x_2 x_3 = some r) : Run D σ (R165 r) (.run A165 []) s := by
  unfold i_net_frontSize at h
  obtain ⟨h0, h1, h2⟩ := hs
  refine .seq (run_reg ?_)
  refine e_clr ?_
  refine ez [(0, _), (1, _), (2, _), (3, _)] ⟨(keep_clear (pk := [3]) h0 rfl (map_agg (maps_cons me maps_nil))), (keep_clear (pk := [3]) h1 rfl mi), (keep_clear (pk := [3]) h2 rfl mi), (gone_clear (pk := [3]) (t := 3) rfl)⟩ ?_
  rintro s ⟨h0, h1, h2, h3⟩
  refine g_box (.agg [(eL x_1.a)]) (rd_of h0 rfl) h3 rfl ?_
  refine g0 (ji 0) fun h6 => gq (.nsq (.seq (rg (g1 3 (.agg [(eL x_1.a)]) (rfl : (_ : V) = (.ref (.bx 3) 0 [] (.agg [(eL x_1.a)]))) fun h7 => ?_))))
  refine gm h1 fun h8 => gm h2 fun h9 => ?_
  obtain ⟨q_4, E_q_4, h⟩ := bind_some h
  refine gv (ji q_4) (ev_shl rfl h9 E_q_4) fun h10 => ?_
  refine g2 8 10 (ji (ior .i64 x_2 q_4)) h8 h10 fun h11 => ?_
  obtain ⟨r_5, E_r_5, h⟩ := bind_some h
  refine g_call (m := 0) (al := false) (r := (Enc.enc (r_5 : Int))) [Enc.enc (x_1 : (S1 (List Int))), Enc.enc (ior .i64 x_2 q_4 : Int)] (ta_cons (v := (.agg [(eL x_1.a)])) h7 rfl (Enc.erase_enc (x_1 : (S1 (List Int)))) (ta_cons (v := (ji (ior .i64 x_2 q_4))) h11 rfl rfl ta_nil)) (H.c84 _ _ _ E_r_5) H.g84 rfl rfl rfl rfl ?_
  refine g1 12 (.int .u64 (IntKind.u64.wrap r_5)) (rfl : (_ : V) = (ji r_5)) fun h13 => ?_
  obtain ⟨r_6, E_r_6, h⟩ := bind_some h
  refine g_call (m := 0) (al := false) (r := (Enc.enc (r_6 : Int))) [Enc.enc ((Kd.mk (IntKind.u64.wrap r_5) : Kd .u64) : (Kd .u64))] (ta_cons (v := (.int .u64 (IntKind.u64.wrap r_5))) h13 rfl rfl ta_nil) (H.c161 _ _ E_r_6) H.g161 rfl rfl rfl rfl ?_
  refine gm (rfl : (_ : V) = (ji r_6)) fun h6 => ?_
  refine gq (.nsq (.ret ?_))
  have hr := Option.some.inj h
  subst hr
  exact rrA (res_tmp h6) rfl
end
def e165 (F : Nat) : Ent := ent 165 (fun (x : ((S1 (List Int)) × Int × Int × Unit)) => i_net_frontSize F x.1 x.2.1 x.2.2.1) (fun (r : Int) => (Enc.enc (r : Int))) 0 false []
theorem p165 {F : Nat} {x0 : (S1 (List Int))} {x1 : Int} {x2 : Int} {r : Int} (h : i_net_frontSize F x0 x1 x2 = some r) : (e165 F).den [Enc.enc x0, Enc.enc x1, Enc.enc x2] = some (Enc.enc (r : Int)) := ent_put (x0, x1, x2, ()) h
theorem o165 {D : Den} {σ : Sig} {F : Nat} (hF : Fits2 Try.prog D σ) (H : H165 D σ F) : (e165 F).Ok Try.prog := by
  refine ok_of (f := 165) (show unk 165 = 165 from rfl) (fun args r h => ?_) ⟨Try.f165, Try.func165, rfl, rfl⟩
  obtain ⟨⟨x0, x1, x2, _⟩, y, rfl, hy, rfl⟩ := da_open h
  exact contract_run hF (by kernel_rfl) Try.func165 rfl c165 (show 3 ≤ Try.f165.ntmps by decide) (t165 H x0 x1 x2 _ ⟨rfl, rfl, rfl⟩ hy)
/- (loop.example/g01109/impl.net).bestOrders -/
def A164s1_2 : AC := (.cond (.t 19) .skip (.exit 0))
def A164s1_11 : AC := (.cond (.t 58) (.reg [] [(jm 59 7), (jm 60 8), (jm 61 11), ((jv 62 (.idx (.t 59) (.t 60) 1))), (.mk none none false (.store .s (.t 62) (.t 61)))] []) .skip)
def A164s1_10 : AC := (.seq (.reg [] [(jm 49 9), ((jv 50 (.bin .eql (.t 49) (jn 0)))), (jm 51 50), ((jg 52 51 false (.mov (.t 11)))), ((jg 53 51 false (.mov (.t 7)))), ((jg 54 51 false (.mov (.t 8)))), ((jg 55 51 false (.idx (.t 53) (.t 54) 1))), ((jg 56 51 false (.load .s (.t 55)))), ((jg 57 51 false (.bin .lss (.t 52) (.t 56)))), ((jv 58 (.pick (.t 51) (.k (.bool true)) (.t 57))))] []) A164s1_11)
def A164s1_9 : AC := (.seq (.reg [] [(jm 37 2), (jm 38 8), (jm 39 10), (.mk (some 40) none false (.call (.t 37) [(.t 38), (.t 39)])), (jm 41 7), (jm 42 8), (jm 43 10), ((jv 44 (.bin .shl (jn 1) (.t 43)))), ((jv 45 (.bin .or (.t 42) (.t 44)))), ((jv 46 (.idx (.t 41) (.t 45) 1))), ((jv 47 (.load .s (.t 46)))), ((jv 48 (.mx [(.t 40), (.t 47)]))), (jm 11 48)] []) A164s1_10)
def A164s1_12 : AC := (.reg [] [((jv 63 (.bin .add (.t 32) (jn 1)))), (jm 32 63)] [])
def A164s1_8 : AC := (.seq (.block 3 (.seq (.reg [] [(jm 34 32), ((jv 35 (.idx (.t 30) (.t 32) 1))), ((jv 36 (.load .s (.t 35)))), (jm 9 34), (jm 10 36)] []) A164s1_9)) A164s1_12)
def A164s1_7 : AC := (.seq (.cond (.t 33) .skip (.exit 2)) A164s1_8)
def A164s1_6 : AC := (.seq (.reg [] [((jv 33 (.bin .lss (.t 32) (.t 31))))] []) A164s1_7)
def A164s1_5 : AC := (.block 2 (.loop A164s1_6))
def A164s1_4 : AC := (.seq (.reg [] [((jv 26 (.load (.ag [.p]) (.t 3)))), (.mk (some 27) none false (.call (.k (.fn 113 [] [])) [(.t 26)])), (jm 28 8), ((jv 29 (.bin .andNot (.t 27) (.t 28)))), (.mk (some 30) none false (.call (.k (.fn 83 [] [])) [(.t 29)])), ((jv 31 (.len (.t 30)))), ((jv 32 (.mov (jn 0))))] []) A164s1_5)
def A164s1_13 : AC := (.reg [] [(jm 20 8), ((jv 21 (.bin .sub (.t 20) (jn 1)))), (jm 8 21)] [])
def A164s1_3 : AC := (.seq (.block 1 (.seq (.reg [] [(jm 22 7), (jm 23 8), (jm 24 1), ((jv 25 (.idx (.t 22) (.t 23) 1))), (.mk none none false (.store .s (.t 25) (.t 24)))] []) A164s1_4)) A164s1_13)
def A164s1_1 : AC := (.seq (.seq (.reg [] [(jm 18 8), ((jv 19 (.bin .geq (.t 18) (jn 0))))] []) A164s1_2) A164s1_3)
def A164s1_14 : AC := (.seq (.reg [] [(jm 64 7), (jm 6 64)] [.home 7 6]) .ret)
def A164s1_17 : AC := (.block 0 (.loop A164s1_1))
def A164s1_16 : AC := (.seq (.seq (.reg [] [((jv 16 (.load (.ag [.p]) (.t 3)))), (.mk (some 17) none false (.call (.k (.fn 113 [] [])) [(.t 16)])), (jm 8 17)] []) A164s1_17) A164s1_14)
def A164s1_15 : AC := (.seq (.reg [.clr [15]] [((jv 12 (.load (.ag [.p]) (.t 3)))), (.mk (some 13) none false (.call (.k (.fn 113 [] [])) [(.t 12)])), ((jv 14 (.bin .add (.t 13) (jn 1)))), (.mk (some 15) none false (.mk (.t 14) (.int .i64 (.ofNat 0)) (.int .i64 (.ofNat 0)))), (jm 7 15)] [.home 15 7]) A164s1_16)
def A164s1 : AC := (.seq (.reg [.clr [3]] [(.mk (some 3) none false (.box (.t 0))), ((jv 6 (.mov (.k (.sl .nl .s 0 [])))))] []) A164s1_15)
def an164s1 : List An := [{ id := 0, pre := [.clr [3]], ep := [], lin := [], sp := [] }, { id := 1, pre := [.clr [15]], ep := [.home 15 7], lin := [], sp := [] }, { id := 13, pre := [], ep := [.home 7 6], lin := [], sp := [] }]
theorem c164s1 : cC Try.prog Try.f164.ntmps an164s1 (Try.f164.body.getD .skip) = some A164s1 := by kernel_rfl
structure H164s1 (D : Den) (σ : Sig) (F : Nat) : Prop where
  c113 : ∀ (x0 : (S1 (List Int))) r, i_net_all F x0 = some r → D 113 [Enc.enc x0] = some (Enc.enc (r : Int))
  g113 : σ 113 = some (0, false)
  c83 : ∀ (x0 : Int) r, i_setOf F x0 = some r → D 83 [Enc.enc x0] = some (Enc.enc (r : (List Int)))
  g83 : σ 83 = some (0, false)
  c165 : ∀ (x0 : (S1 (List Int))) (x1 : Int) (x2 : Int) r, i_net_frontSize F x0 x1 x2 = some r → D 165 [Enc.enc x0, Enc.enc x1, Enc.enc x2] = some (Enc.enc (r : Int))
  g165 : σ 165 = some (0, false)
abbrev R164s1 (r : (List Int)) : (Nat → V) → Prop := RR Try.prog [.tmp 6] 0 false (Enc.enc (r : (List Int)))
section
variable {D : Den} {σ : Sig} {F : Nat} {r : (List Int)}
def i_net_bestOrders_of_i_net_frontSize_j1 (F : Nat) (x_2 : Int) (x_3 : (Cl 165 ((S1 (List Int)) × Unit) Unit)) (x_1 : (S1 (List Int))) (x_43 : Int) (r_81 : (List Int)) (x_93 : Int) (c1 : (List Int) → Int → Option (List Int)) (c4 : (List Int) → Int → Option (List Int)) (x_111 : (List Int)) : Option (List Int) :=
  c4 x_111 (w64 (x_93 + 1))
theorem t_f164s1_j1 (H : H164s1 D σ F) (x_2 : Int) (x_3 : (Cl 165 ((S1 (List Int)) × Unit) Unit)) (x_1 : (S1 (List Int))) (x_43 : Int) (r_81 : (List Int)) (x_93 : Int) (c1 : (List Int) → Int → Option (List Int)) (Hc1 : ∀ (x_42 : (List Int)) (x_43 : Int) (s : Nat → V), Facts [(1, (ji x_2)), (2, (.fn 165 [(.agg [(eL x_3.fs.1.a)])] [])), (3, (.ref (.bx 3) 0 [] (.agg [(eL x_1.a)]))), (6, (.sl .nl (Enc.shp Int) 0 [])), (7, (oI 7 [] (.of x_42))), (8, (ji x_43))] s → c1 x_42 x_43 = some r → Run D σ (R164s1 r) (.run A164s1_1 [.lp A164s1_1, .bk 0, .sq A164s1_14]) s) (c4 : (List Int) → Int → Option (List Int)) (Hc4 : ∀ (x_92 : (List Int)) (x_93 : Int) (s : Nat → V), Facts [(1, (ji x_2)), (2, (.fn 165 [(.agg [(eL x_3.fs.1.a)])] [])), (3, (.ref (.bx 3) 0 [] (.agg [(eL x_1.a)]))), (6, (.sl .nl (Enc.shp Int) 0 [])), (7, (oI 7 [] (.of x_92))), (8, (ji x_43)), (30, (eL r_81)), (31, (ji (r_81.length : Int))), (32, (ji x_93))] s → c4 x_92 x_93 = some r → Run D σ (R164s1 r) (.run A164s1_6 [.lp A164s1_6, .bk 2, .bk 1, .sq A164s1_13, .lp A164s1_1, .bk 0, .sq A164s1_14]) s) (x_111 : (List Int)) (s : Nat → V) (hs : Facts [(1, (ji x_2)), (2, (.fn 165 [(.agg [(eL x_3.fs.1.a)])] [])), (3, (.ref (.bx 3) 0 [] (.agg [(eL x_1.a)]))), (6, (.sl .nl (Enc.shp Int) 0 [])), (7, (oI 7 [] (.of x_111))), (8, (ji x_43)), (30, (eL r_81)), (31, (ji (r_81.length : Int))), (32, (ji x_93))] s) (h : i_net_bestOrders_of_i_net_frontSize_j1 F x_2 x_3 x_1 x_43 r_81 x_93 c1 c4 x_111 = some r) : Run D σ (R164s1 r) (.nrm [.bk 3, .sq A164s1_12, .lp A164s1_6, .bk 2, .bk 1, .sq A164s1_13, .lp A164s1_1, .bk 0, .sq A164s1_14]) s := by
  unfold i_net_bestOrders_of_i_net_frontSize_j1 at h
  obtain ⟨h1, h2, h3, h6, h7, h8, h30, h31, h32⟩ := hs
  refine .nbk (.nsq (rg (g1 32 (ji (w64 (x_93 + 1))) h32 fun h63 => ?_)))
  refine gm h63 fun h32 => gq (.nlp ?_)
  exact Hc4 x_111 (w64 (x_93 + 1)) _ ⟨h1, h2, h3, h6, h7, h8, h30, h31, h32⟩ h
def i_net_bestOrders_of_i_net_frontSize_j2 (F : Nat) (x_2 : Int) (x_3 : (Cl 165 ((S1 (List Int)) × Unit) Unit)) (x_1 : (S1 (List Int))) (x_92 : (List Int)) (x_43 : Int) (e_107 : Int) (r_105 : Int) (r_81 : (List Int)) (x_93 : Int) (c1 : (List Int) → Int → Option (List Int)) (c4 : (List Int) → Int → Option (List Int)) (x_109 : Bool) : Option (List Int) :=
  bif x_109 then
    (idx x_92 x_43).bind fun e_112 =>
    i_net_bestOrders_of_i_net_frontSize_j1 F x_2 x_3 x_1 x_43 r_81 x_93 c1 c4 (x_92.set x_43.toNat (if e_107 > r_105 then e_107 else r_105))
  else
    i_net_bestOrders_of_i_net_frontSize_j1 F x_2 x_3 x_1 x_43 r_81 x_93 c1 c4 x_92
theorem t_f164s1_j2 (H : H164s1 D σ F) (x_2 : Int) (x_3 : (Cl 165 ((S1 (List Int)) × Unit) Unit)) (x_1 : (S1 (List Int))) (x_92 : (List Int)) (x_43 : Int) (e_107 : Int) (r_105 : Int) (r_81 : (List Int)) (x_93 : Int) (c1 : (List Int) → Int → Option (List Int)) (Hc1 : ∀ (x_42 : (List Int)) (x_43 : Int) (s : Nat → V), Facts [(1, (ji x_2)), (2, (.fn 165 [(.agg [(eL x_3.fs.1.a)])] [])), (3, (.ref (.bx 3) 0 [] (.agg [(eL x_1.a)]))), (6, (.sl .nl (Enc.shp Int) 0 [])), (7, (oI 7 [] (.of x_42))), (8, (ji x_43))] s → c1 x_42 x_43 = some r → Run D σ (R164s1 r) (.run A164s1_1 [.lp A164s1_1, .bk 0, .sq A164s1_14]) s) (c4 : (List Int) → Int → Option (List Int)) (Hc4 : ∀ (x_92 : (List Int)) (x_93 : Int) (s : Nat → V), Facts [(1, (ji x_2)), (2, (.fn 165 [(.agg [(eL x_3.fs.1.a)])] [])), (3, (.ref (.bx 3) 0 [] (.agg [(eL x_1.a)]))), (6, (.sl .nl (Enc.shp Int) 0 [])), (7, (oI 7 [] (.of x_92))), (8, (ji x_43)), (30, (eL r_81)), (31, (ji (r_81.length : Int))), (32, (ji x_93))] s → c4 x_92 x_93 = some r → Run D σ (R164s1 r) (.run A164s1_6 [.lp A164s1_6, .bk 2, .bk 1, .sq A164s1_13, .lp A164s1_1, .bk 0, .sq A164s1_14]) s) (x_109 : Bool) (s : Nat → V) (hs : Facts [(1, (ji x_2)), (2, (.fn 165 [(.agg [(eL x_3.fs.1.a)])] [])), (3, (.ref (.bx 3) 0 [] (.agg [(eL x_1.a)]))), (6, (.sl .nl (Enc.shp Int) 0 [])), (7, (oI 7 [] (.of x_92))), (8, (ji x_43)), (11, (ji (if e_107 > r_105 then e_107 else r_105))), (30, (eL r_81)), (31, (ji (r_81.length : Int))), (32, (ji x_93)), (58, (jb x_109))] s) (h : i_net_bestOrders_of_i_net_frontSize_j2 F x_2 x_3 x_1 x_92 x_43 e_107 r_105 r_81 x_93 c1 c4 x_109 = some r) : Run D σ (R164s1 r) (.nrm [.sq A164s1_11, .bk 3, .sq A164s1_12, .lp A164s1_6, .bk 2, .bk 1, .sq A164s1_13, .lp A164s1_1, .bk 0, .sq A164s1_14]) s := by
  unfold i_net_bestOrders_of_i_net_frontSize_j2 at h
  obtain ⟨h1, h2, h3, h6, h7, h8, h11, h30, h31, h32, h58⟩ := hs
  refine .nsq (run_cond (t := x_109) h58 h (fun h => ?_) (fun h => ?_))
  · refine rg (gm h7 fun h59 => gm h8 fun h60 => gm h11 fun h61 => ?_)
    obtain ⟨e_112, E_e_112, h⟩ := bind_some h
    refine gv (.ref (.at 7 []) x_43.toNat [] (ji e_112)) (ev_idxO (o := (.of x_92)) h59 h60 E_e_112 rfl) fun h62 => ?_
    refine g_store (ji (if e_107 > r_105 then e_107 else r_105)) (rd_of h62 rfl) (rd_of h61 rfl) (by refine ⟨by decide, by decide, rfl, rfl, rfl, ?_⟩; first | rfl | simp [V.toks, V.tokss, Enc.toks_enc]) ?_
    refine gz [(1, (ji x_2)), (2, (.fn 165 [(.agg [(eL x_3.fs.1.a)])] [])), (3, (.ref (.bx 3) 0 [] (.agg [(eL x_1.a)]))), (6, (.sl .nl (Enc.shp Int) 0 [])), (7, _), (8, (ji x_43)), (30, (eL r_81)), (31, (ji (r_81.length : Int))), (32, (ji x_93))] ⟨(keep_mut h1 rfl), (keep_mut h2 (mut_fn (muts_cons (mut_agg (muts_cons (Enc.mut_enc _ _ _ _ (x_3.fs.1.a : List Int)) rfl)) rfl) rfl)), (keep_mut h3 (mut_ref_ne rfl rfl (mut_agg (muts_cons (Enc.mut_enc _ _ _ _ (x_1.a : List Int)) rfl)))), (keep_mut h6 rfl), (keep_mut h7 mut_own), (keep_mut h8 rfl), (keep_mut h30 (Enc.mut_enc _ _ _ _ (r_81 : List Int))), (keep_mut h31 rfl), (keep_mut h32 rfl)⟩ ?_
    rintro s ⟨h1, h2, h3, h6, h7, h8, h30, h31, h32⟩
    exact t_f164s1_j1 H x_2 x_3 x_1 x_43 r_81 x_93 c1 Hc1 c4 Hc4 (x_92.set x_43.toNat (if e_107 > r_105 then e_107 else r_105)) _ ⟨h1, h2, h3, h6, h7, h8, h30, h31, h32⟩ h
  refine .skip ?_
  exact t_f164s1_j1 H x_2 x_3 x_1 x_43 r_81 x_93 c1 Hc1 c4 Hc4 x_92 _ ⟨h1, h2, h3, h6, h7, h8, h30, h31, h32⟩ h
def i_net_bestOrders_of_i_net_frontSize_l1 (F : Nat) (x_2 : Int) (x_3 : (Cl 165 ((S1 (List Int)) × Unit) Unit)) (x_1 : (S1 (List Int))) (x_43 : Int) (r_81 : (List Int)) (c1 : (List Int) → Int → Option (List Int)) : Nat → (List Int) → Int → Option (List Int)
  | 0, _, _ => none
  | k + 1, x_92, x_93 =>
    bif decide (x_93 < (r_81.length : Int)) then
      (idx r_81 x_93).bind fun e_104 =>
      (i_net_frontSize F x_3.fs.1 x_43 e_104).bind fun r_105 =>
      (shlI .i64 1 e_104).bind fun q_106 =>
      (idx x_92 (ior .i64 x_43 q_106)).bind fun e_107 =>
      bif (x_93 == 0) then
        i_net_bestOrders_of_i_net_frontSize_j2 F x_2 x_3 x_1 x_92 x_43 e_107 r_105 r_81 x_93 c1 (i_net_bestOrders_of_i_net_frontSize_l1 F x_2 x_3 x_1 x_43 r_81 c1 k) true
      else
        (idx x_92 x_43).bind fun e_113 =>
        i_net_bestOrders_of_i_net_frontSize_j2 F x_2 x_3 x_1 x_92 x_43 e_107 r_105 r_81 x_93 c1 (i_net_bestOrders_of_i_net_frontSize_l1 F x_2 x_3 x_1 x_43 r_81 c1 k) (decide ((if e_107 > r_105 then e_107 else r_105) < e_113))
    else
      c1 x_92 (w64 (x_43 - 1))
theorem t_f164s1_l1 (H : H164s1 D σ F) (x_2 : Int) (x_3 : (Cl 165 ((S1 (List Int)) × Unit) Unit)) (x_1 : (S1 (List Int))) (x_43 : Int) (r_81 : (List Int)) (c1 : (List Int) → Int → Option (List Int)) (Hc1 : ∀ (x_42 : (List Int)) (x_43 : Int) (s : Nat → V), Facts [(1, (ji x_2)), (2, (.fn 165 [(.agg [(eL x_3.fs.1.a)])] [])), (3, (.ref (.bx 3) 0 [] (.agg [(eL x_1.a)]))), (6, (.sl .nl (Enc.shp Int) 0 [])), (7, (oI 7 [] (.of x_42))), (8, (ji x_43))] s → c1 x_42 x_43 = some r → Run D σ (R164s1 r) (.run A164s1_1 [.lp A164s1_1, .bk 0, .sq A164s1_14]) s) : ∀ (k : Nat) (x_92 : (List Int)) (x_93 : Int) (s : Nat → V), Facts [(1, (ji x_2)), (2, (.fn 165 [(.agg [(eL x_3.fs.1.a)])] [])), (3, (.ref (.bx 3) 0 [] (.agg [(eL x_1.a)]))), (6, (.sl .nl (Enc.shp Int) 0 [])), (7, (oI 7 [] (.of x_92))), (8, (ji x_43)), (30, (eL r_81)), (31, (ji (r_81.length : Int))), (32, (ji x_93))] s → i_net_bestOrders_of_i_net_frontSize_l1 F x_2 x_3 x_1 x_43 r_81 c1 k x_92 x_93 = some r → Run D σ (R164s1 r) (.run A164s1_6 [.lp A164s1_6, .bk 2, .bk 1, .sq A164s1_13, .lp A164s1_1, .bk 0, .sq A164s1_14]) s := by
  intro k
  induction k with
  | zero => intro x_92 x_93 s _ h; exact nomatch (h : (none : Option _) = some r)
  | succ k ih =>
    intro x_92 x_93 s hs h
    rw [i_net_bestOrders_of_i_net_frontSize_l1] at h
    obtain ⟨h1, h2, h3, h6, h7, h8, h30, h31, h32⟩ := hs
    refine .seq (rg (g2 32 31 (jb (decide (x_93 < (r_81.length : Int)))) h32 h31 fun h33 => ?_))
    refine gq (.nsq (.seq (run_cond (t := decide (x_93 < (r_81.length : Int))) h33 h (fun h => ?_) (fun h => ?_))))
    · refine .skip (.nsq (.seq (.block (.seq (rg (gm h32 fun h34 => ?_))))))
      obtain ⟨e_104, E_e_104, h⟩ := bind_some h
      refine gv (.ref .sh 0 [] (ji e_104)) (ev_idx (t := .sh) (lo := 0) (xs := r_81) h30 h32 E_e_104 rfl rfl) fun h35 => ?_
      refine g1 35 (ji e_104) h35 fun h36 => ?_
      refine gm h34 fun h9 => gm h36 fun h10 => gq (.nsq (.seq (rg (gm h2 fun h37 => gm h8 fun h38 => gm h10 fun h39 => ?_))))
      obtain ⟨r_105, E_r_105, h⟩ := bind_some h
      refine g_callF (m := 0) (al := false) (r := (Enc.enc (r_105 : Int))) (fs := [(.agg [(eL x_3.fs.1.a)])]) (env := []) (us := [Enc.enc (x_3.fs.1 : (S1 (List Int)))]) (ws := []) h37 (erases_cons (Enc.erase_enc (x_3.fs.1 : (S1 (List Int)))) erases_nil) erases_nil rfl [Enc.enc (x_43 : Int), Enc.enc (e_104 : Int)] (ta_cons (v := (ji x_43)) h38 rfl rfl (ta_cons (v := (ji e_104)) h39 rfl rfl ta_nil)) (H.c165 _ _ _ _ E_r_105) H.g165 rfl rfl rfl rfl ?_
      refine gm h7 fun h41 => gm h8 fun h42 => gm h10 fun h43 => ?_
      obtain ⟨q_106, E_q_106, h⟩ := bind_some h
      refine gv (ji q_106) (ev_shl rfl h43 E_q_106) fun h44 => ?_
      refine g2 42 44 (ji (ior .i64 x_43 q_106)) h42 h44 fun h45 => ?_
      obtain ⟨e_107, E_e_107, h⟩ := bind_some h
      refine gv (.ref (.at 7 []) ((ior .i64 x_43 q_106).toNat) [] (ji e_107)) (ev_idxO (o := (.of x_92)) h41 h45 E_e_107 rfl) fun h46 => ?_
      refine g1 46 (ji e_107) h46 fun h47 => ?_
      refine g2 40 47 (ji (if e_107 > r_105 then e_107 else r_105)) (rfl : (_ : V) = (ji r_105)) h47 fun h48 => ?_
      refine gm h48 fun h11 => gq (.nsq (.seq (rg (gm h9 fun h49 => g1 49 (jb (x_93 == 0)) h49 fun h50 => ?_))))
      refine gm h50 fun h51 => split_on (c := (x_93 == 0)) h (fun hg3 h => ?_) (fun hg3 h => ?_)
      · refine g_no (h51.trans (congrArg V.bool hg3)) ?_
        refine g_no (h51.trans (congrArg V.bool hg3)) ?_
        refine g_no (h51.trans (congrArg V.bool hg3)) ?_
        refine g_no (h51.trans (congrArg V.bool hg3)) ?_
        refine g_no (h51.trans (congrArg V.bool hg3)) ?_
        refine g_no (h51.trans (congrArg V.bool hg3)) ?_
        refine g2 51 57 (jb true) (h51.trans (congrArg V.bool hg3)) (rfl : (_ : V) = (.tup [])) fun h58 => ?_
        refine gz [(1, _), (2, _), (3, _), (6, _), (7, _), (8, _), (11, _), (30, _), (31, _), (32, _), (58, _)] ⟨h1, h2, h3, h6, h7, h8, h11, h30, h31, h32, h58⟩ ?_
        rintro s ⟨h1, h2, h3, h6, h7, h8, h11, h30, h31, h32, h58⟩
        exact t_f164s1_j2 H x_2 x_3 x_1 x_92 x_43 e_107 r_105 r_81 x_93 c1 Hc1 (i_net_bestOrders_of_i_net_frontSize_l1 F x_2 x_3 x_1 x_43 r_81 c1 k) ih true _ ⟨h1, h2, h3, h6, h7, h8, h11, h30, h31, h32, h58⟩ h
      refine g_yes (h51.trans (congrArg V.bool hg3)) (gm h11 fun h52 => ?_)
      refine g_yes (h51.trans (congrArg V.bool hg3)) (gm h7 fun h53 => ?_)
      refine g_yes (h51.trans (congrArg V.bool hg3)) (gm h8 fun h54 => ?_)
      obtain ⟨e_113, E_e_113, h⟩ := bind_some h
      refine g_yes (h51.trans (congrArg V.bool hg3)) (gv (.ref (.at 7 []) x_43.toNat [] (ji e_113)) (ev_idxO (o := (.of x_92)) h53 h54 E_e_113 rfl) fun h55 => ?_)
      refine g_yes (h51.trans (congrArg V.bool hg3)) (g1 55 (ji e_113) h55 fun h56 => ?_)
      refine g_yes (h51.trans (congrArg V.bool hg3)) (g2 52 56 (jb (decide ((if e_107 > r_105 then e_107 else r_105) < e_113))) h52 h56 fun h57 => ?_)
      refine g2 51 57 (jb (decide ((if e_107 > r_105 then e_107 else r_105) < e_113))) (h51.trans (congrArg V.bool hg3)) h57 fun h58 => ?_
      refine gz [(1, _), (2, _), (3, _), (6, _), (7, _), (8, _), (11, _), (30, _), (31, _), (32, _), (58, _)] ⟨h1, h2, h3, h6, h7, h8, h11, h30, h31, h32, h58⟩ ?_
      rintro s ⟨h1, h2, h3, h6, h7, h8, h11, h30, h31, h32, h58⟩
      exact t_f164s1_j2 H x_2 x_3 x_1 x_92 x_43 e_107 r_105 r_81 x_93 c1 Hc1 (i_net_bestOrders_of_i_net_frontSize_l1 F x_2 x_3 x_1 x_43 r_81 c1 k) ih (decide ((if e_107 > r_105 then e_107 else r_105) < e_113)) _ ⟨h1, h2, h3, h6, h7, h8, h11, h30, h31, h32, h58⟩ h
    refine .exit (.esq (.elp (.ebk (.nbk (.nsq (rg (gm h8 fun h20 => g1 20 (ji (w64 (x_43 - 1))) h20 fun h21 => ?_)))))))
    refine gm h21 fun h8 => gq (.nlp ?_)
    exact Hc1 x_92 (w64 (x_43 - 1)) _ ⟨h1, h2, h3, h6, h7, h8⟩ h
def i_net_bestOrders_of_i_net_frontSize_l2 (F : Nat) (x_2 : Int) (x_3 : (Cl 165 ((S1 (List Int)) × Unit) Unit)) (x_1 : (S1 (List Int)))  : Nat → (List Int) → Int → Option (List Int)
  | 0, _, _ => none
  | k + 1, x_42, x_43 =>
    bif decide (x_43 ≥ 0) then
      (idx x_42 x_43).bind fun e_79 =>
      (i_net_all F x_1).bind fun r_80 =>
      (i_setOf F (iandNot .i64 r_80 x_43)).bind fun r_81 =>
      i_net_bestOrders_of_i_net_frontSize_l1 F x_2 x_3 x_1 x_43 r_81 (i_net_bestOrders_of_i_net_frontSize_l2 F x_2 x_3 x_1 k) F (x_42.set x_43.toNat x_2) 0
    else
      some x_42
theorem t_f164s1_l2 (H : H164s1 D σ F) (x_2 : Int) (x_3 : (Cl 165 ((S1 (List Int)) × Unit) Unit)) (x_1 : (S1 (List Int)))  : ∀ (k : Nat) (x_42 : (List Int)) (x_43 : Int) (s : Nat → V), Facts [(1, (ji x_2)), (2, (.fn 165 [(.agg [(eL x_3.fs.1.a)])] [])), (3, (.ref (.bx 3) 0 [] (.agg [(eL x_1.a)]))), (6, (.sl .nl (Enc.shp Int) 0 [])), (7, (oI 7 [] (.of x_42))), (8, (ji x_43))] s → i_net_bestOrders_of_i_net_frontSize_l2 F x_2 x_3 x_1 k x_42 x_43 = some r → Run D σ (R164s1 r) (.run A164s1_1 [.lp A164s1_1, .bk 0, .sq A164s1_14]) s := by
  intro k
  induction k with
  | zero => intro x_42 x_43 s _ h; exact nomatch (h : (none : Option _) = some r)
  | succ k ih =>
    intro x_42 x_43 s hs h
    rw [i_net_bestOrders_of_i_net_frontSize_l2] at h
    obtain ⟨h1, h2, h3, h6, h7, h8⟩ := hs
    refine .seq (.seq (rg (gm h8 fun h18 => g1 18 (jb (decide (x_43 ≥ 0))) h18 fun h19 => ?_)))
    refine gq (.nsq (run_cond (t := decide (x_43 ≥ 0)) h19 h (fun h => ?_) (fun h => ?_)))
    · refine .skip (.nsq (.seq (.block (.seq (rg (gm h7 fun h22 => gm h8 fun h23 => gm h1 fun h24 => ?_))))))
      obtain ⟨e_79, E_e_79, h⟩ := bind_some h
      refine gv (.ref (.at 7 []) x_43.toNat [] (ji e_79)) (ev_idxO (o := (.of x_42)) h22 h23 E_e_79 rfl) fun h25 => ?_
      refine g_store (ji x_2) (rd_of h25 rfl) (rd_of h24 rfl) (by refine ⟨by decide, by decide, rfl, rfl, rfl, ?_⟩; first | rfl | simp [V.toks, V.tokss, Enc.toks_enc]) ?_
      refine gz [(1, (ji x_2)), (2, (.fn 165 [(.agg [(eL x_3.fs.1.a)])] [])), (3, (.ref (.bx 3) 0 [] (.agg [(eL x_1.a)]))), (6, (.sl .nl (Enc.shp Int) 0 [])), (7, _), (8, (ji x_43))] ⟨(keep_mut h1 rfl), (keep_mut h2 (mut_fn (muts_cons (mut_agg (muts_cons (Enc.mut_enc _ _ _ _ (x_3.fs.1.a : List Int)) rfl)) rfl) rfl)), (keep_mut h3 (mut_ref_ne rfl rfl (mut_agg (muts_cons (Enc.mut_enc _ _ _ _ (x_1.a : List Int)) rfl)))), (keep_mut h6 rfl), (keep_mut h7 mut_own), (keep_mut h8 rfl)⟩ ?_
      rintro s ⟨h1, h2, h3, h6, h7, h8⟩
      refine .nsq (.seq (rg (g1 3 (.agg [(eL x_1.a)]) h3 fun h26 => ?_)))
      obtain ⟨r_80, E_r_80, h⟩ := bind_some h
      refine g_call (m := 0) (al := false) (r := (Enc.enc (r_80 : Int))) [Enc.enc (x_1 : (S1 (List Int)))] (ta_cons (v := (.agg [(eL x_1.a)])) h26 rfl (Enc.erase_enc (x_1 : (S1 (List Int)))) ta_nil) (H.c113 _ _ E_r_80) H.g113 rfl rfl rfl rfl ?_
      refine gm h8 fun h28 => g2 27 28 (ji (iandNot .i64 r_80 x_43)) (rfl : (_ : V) = (ji r_80)) h28 fun h29 => ?_
      obtain ⟨r_81, E_r_81, h⟩ := bind_some h
      refine g_call (m := 0) (al := false) (r := (Enc.enc (r_81 : (List Int)))) [Enc.enc (iandNot .i64 r_80 x_43 : Int)] (ta_cons (v := (ji (iandNot .i64 r_80 x_43))) h29 rfl rfl ta_nil) (H.c83 _ _ E_r_81) H.g83 rfl rfl rfl rfl ?_
      refine gv (ji (r_81.length : Int)) (ev_len (xs := r_81) rfl) fun h31 => ?_
      refine g0 (ji 0) fun h32 => gq (.nsq (.block (.loop ?_)))
      exact t_f164s1_l1 H x_2 x_3 x_1 x_43 r_81 (i_net_bestOrders_of_i_net_frontSize_l2 F x_2 x_3 x_1 k) ih F (x_42.set x_43.toNat x_2) 0 _ ⟨h1, h2, h3, h6, h7, h8, rfl, h31, h32⟩ h
    refine .exit (.esq (.elp (.ebk (.nsq (.seq (rg (gm h7 fun h64 => gm h64 fun h6 => g_end ?_)))))))
    refine e_home (r := 7) (x := 6) (v := _) h6 rfl (fun s_4 hg_4 => ?_)
    refine ez [(6, (oI 6 [] (.of x_42)))] (hg_4 6 _ _ h6 (map_encO (r := 7) (p := []) rfl rfl)) ?_
    rintro s h6
    refine .nsq (.ret ?_)
    have hr := Option.some.inj h
    subst hr
    exact rrA (res_tmp h6) (fin_retF (fin_own (o := .of x_42)) (mine_own rfl))
def i_net_bestOrders_of_i_net_frontSize (F : Nat) (x_1 : (S1 (List Int))) (x_2 : Int) (x_3 : (Cl 165 ((S1 (List Int)) × Unit) Unit)) : Option (List Int) :=
  (i_net_all F x_1).bind fun r_4 =>
  (mkN (w64 (r_4 + 1)) (0 : Int)).bind fun mk_5 =>
  (i_net_all F x_1).bind fun r_6 =>
  i_net_bestOrders_of_i_net_frontSize_l2 F x_2 x_3 x_1 F mk_5 r_6
theorem t164s1 (H : H164s1 D σ F) (x_1 : (S1 (List Int))) (x_2 : Int) (x_3 : (Cl 165 ((S1 (List Int)) × Unit) Unit)) (s : Nat → V) (hs : Facts [(0, (.agg [(eL x_1.a)])), (1, (ji x_2)), (2, (.fn 165 [(.agg [(eL x_3.fs.1.a)])] []))] s) (h : i_net_bestOrders_of_i_net_frontSize F x_1 x_2 x_3 = some r) : Run D σ (R164s1 r) (.run A164s1 []) s := by
  unfold i_net_bestOrders_of_i_net_frontSize at h
  obtain ⟨h0, h1, h2⟩ := hs
  refine .seq (run_reg ?_)
  refine e_clr ?_
  refine ez [(0, _), (1, _), (2, _), (3, _)] ⟨(keep_clear (pk := [3]) h0 rfl (map_agg (maps_cons me maps_nil))), (keep_clear (pk := [3]) h1 rfl mi), (keep_clear (pk := [3]) h2 rfl (map_fn (maps_cons (map_agg (maps_cons me maps_nil)) maps_nil) maps_nil)), (gone_clear (pk := [3]) (t := 3) rfl)⟩ ?_
  rintro s ⟨h0, h1, h2, h3⟩
  refine g_box (.agg [(eL x_1.a)]) (rd_of h0 rfl) h3 rfl ?_
  refine g0 (.sl .nl (Enc.shp Int) 0 []) fun h6 => ?_
  refine gq (.nsq (.seq (run_reg ?_)))
  refine e_clr ?_
  refine ez [(1, _), (2, _), (3, _), (6, _), (15, _)] ⟨(keep_clear (pk := [15]) h1 rfl mi), (keep_clear (pk := [15]) h2 rfl (map_fn (maps_cons (map_agg (maps_cons me maps_nil)) maps_nil) maps_nil)), (keep_clear (pk := [15]) rfl rfl (map_bx rfl (map_agg (maps_cons me maps_nil)))), (keep_clear (pk := [15]) h6 rfl rfl), (gone_clear (pk := [15]) (t := 15) rfl)⟩ ?_
  rintro s ⟨h1, h2, h3, h6, h15⟩
  refine g1 3 (.agg [(eL x_1.a)]) h3 fun h12 => ?_
  obtain ⟨r_4, E_r_4, h⟩ := bind_some h
  refine g_call (m := 0) (al := false) (r := (Enc.enc (r_4 : Int))) [Enc.enc (x_1 : (S1 (List Int)))] (ta_cons (v := (.agg [(eL x_1.a)])) h12 rfl (Enc.erase_enc (x_1 : (S1 (List Int)))) ta_nil) (H.c113 _ _ E_r_4) H.g113 rfl rfl rfl rfl ?_
  refine g1 13 (ji (w64 (r_4 + 1))) (rfl : (_ : V) = (ji r_4)) fun h14 => ?_
  obtain ⟨mk_5, E_mk_5, h⟩ := bind_some h
  refine g_mk (0 : Int) h14 rfl h15 E_mk_5 ?_
  refine gm (rfl : (_ : V) = (oI 15 [] (.of mk_5))) fun h7 => ?_
  refine g_end ?_
  refine e_home (r := 15) (x := 7) (v := _) h7 rfl (fun s_3 hg_3 => ?_)
  refine ez [(1, (ji x_2)), (2, (.fn 165 [(.agg [(eL x_3.fs.1.a)])] [])), (3, (.ref (.bx 3) 0 [] (.agg [(eL x_1.a)]))), (6, (.sl .nl (Enc.shp Int) 0 [])), (7, (oI 7 [] (.of mk_5)))] ⟨(hg_3 1 _ _ h1 mi), (hg_3 2 _ _ h2 (map_fn (maps_cons (map_agg (maps_cons me maps_nil)) maps_nil) maps_nil)), (hg_3 3 _ _ h3 (map_bx rfl (map_agg (maps_cons me maps_nil)))), (hg_3 6 _ (.sl .nl (Enc.shp Int) 0 []) h6 rfl), (hg_3 7 _ _ h7 (map_encO (r := 15) (p := []) rfl rfl))⟩ ?_
  rintro s ⟨h1, h2, h3, h6, h7⟩
  refine .nsq (.seq (.seq (rg (g1 3 (.agg [(eL x_1.a)]) h3 fun h16 => ?_))))
  obtain ⟨r_6, E_r_6, h⟩ := bind_some h
  refine g_call (m := 0) (al := false) (r := (Enc.enc (r_6 : Int))) [Enc.enc (x_1 : (S1 (List Int)))] (ta_cons (v := (.agg [(eL x_1.a)])) h16 rfl (Enc.erase_enc (x_1 : (S1 (List Int)))) ta_nil) (H.c113 _ _ E_r_6) H.g113 rfl rfl rfl rfl ?_
  refine gm (rfl : (_ : V) = (ji r_6)) fun h8 => ?_
  refine gq (.nsq (.block (.loop ?_)))
  exact t_f164s1_l2 H x_2 x_3 x_1 F mk_5 r_6 _ ⟨h1, h2, h3, h6, h7, h8⟩ h
end
def e164s1 (F : Nat) : Ent := ent 164 (fun (x : ((S1 (List Int)) × Int × (Cl 165 ((S1 (List Int)) × Unit) Unit) × Unit)) => i_net_bestOrders_of_i_net_frontSize F x.1 x.2.1 x.2.2.1) (fun (r : (List Int)) => (Enc.enc (r : (List Int)))) 0 false [(2, 165)]
theorem p164s1 {F : Nat} {x0 : (S1 (List Int))} {x1 : Int} {x2 : (Cl 165 ((S1 (List Int)) × Unit) Unit)} {r : (List Int)} (h : i_net_bestOrders_of_i_net_frontSize F x0 x1 x2 = some r) : (e164s1 F).den [Enc.enc x0, Enc.enc x1, Arg.arg x2] = some (Enc.enc (r : (List Int))) := ent_put (x0, x1, x2, ()) h
theorem o164s1 {D : Den} {σ : Sig} {F : Nat} (hF : Fits2 Try.prog D σ) (H : H164s1 D σ F) : (e164s1 F).Ok Try.prog := by
  refine ok_of (f := 164) (show unk 164 = 164 from rfl) (fun args r h => ?_) ⟨Try.f164, Try.func164, rfl, rfl⟩
  obtain ⟨⟨x0, x1, x2, _⟩, y, rfl, hy, rfl⟩ := da_open h
  exact contract_run hF (by kernel_rfl) Try.func164 rfl c164s1 (show 3 ≤ Try.f164.ntmps by decide) (t164s1 H x0 x1 x2 _ ⟨rfl, rfl, rfl⟩ hy)
/- (loop.example/g01109/impl.net).pathwidth -/
def A116_1 : AC := (.seq (.reg [] [((jv 3 (.load (.ag [.p]) (.t 1)))), ((jv 4 (.load (.ag [.p]) (.t 1)))), ((jv 5 (.fn 165 [(.t 4)] []))), (.mk (some 6) none false (.call (.k (.fn 164 [] [])) [(.t 3), (jn 0), (.t 5)])), ((jv 7 (.idx (.t 6) (jn 0) 1))), ((jv 8 (.load .s (.t 7)))), (jm 2 8)] []) .ret)
def A116 : AC := (.seq (.reg [.clr [1]] [(.mk (some 1) none false (.box (.t 0))), ((jv 2 (.mov (jn 0))))] []) A116_1)
def an116 : List An := [{ id := 0, pre := [.clr [1]], ep := [], lin := [], sp := [] }]
theorem c116 : cC Try.prog Try.f116.ntmps an116 (Try.f116.body.getD .skip) = some A116 := by kernel_rfl
structure H116 (D : Den) (σ : Sig) (F : Nat) : Prop where
  c164s1 : ∀ (x0 : (S1 (List Int))) (x1 : Int) (x2 : (Cl 165 ((S1 (List Int)) × Unit) Unit)) r, i_net_bestOrders_of_i_net_frontSize F x0 x1 x2 = some r → D 164 [Enc.enc x0, Enc.enc x1, Arg.arg x2] = some (Enc.enc (r : (List Int)))
  g164s1 : σ 164 = some (0, false)
abbrev R116 (r : Int) : (Nat → V) → Prop := RR Try.prog [.tmp 2] 0 false (Enc.enc (r : Int))
section
variable {D : Den} {σ : Sig} {F : Nat} {r : Int}
def i_net_pathwidth (F : Nat) (x_1 : (S1 (List Int))) : Option Int :=
  (i_net_bestOrders_of_i_net_frontSize F x_1 0 (Cl.mk (x_1, ()) () : (Cl 165 ((S1 (List Int)) × Unit) Unit))).bind fun r_2 =>
  (idx r_2 0).bind fun e_3 =>
  some e_3
theorem t116 (H : H116 D σ F) (x_1 : (S1 (List Int))) (s : Nat → V) (hs : Facts [(0, (.agg [(eL x_1.a)]))] s) (h : i_net_pathwidth F x_1 = some r) : Run D σ (R116 r) (.run A116 []) s := by
  unfold i_net_pathwidth at h
  have h0 := hs
  refine .seq (run_reg ?_)
  refine e_clr ?_
  refine ez [(0, _), (1, _)] ⟨(keep_clear (pk := [1]) h0 rfl (map_agg (maps_cons me maps_nil))), (gone_clear (pk := [1]) (t := 1) rfl)⟩ ?_
  rintro s ⟨h0, h1⟩
  refine g_box (.agg [(eL x_1.a)]) (rd_of h0 rfl) h1 rfl ?_
  refine g0 (ji 0) fun h2 => gq (.nsq (.seq (rg (g1 1 (.agg [(eL x_1.a)]) (rfl : (_ : V) = (.ref (.bx 1) 0 [] (.agg [(eL x_1.a)]))) fun h3 => ?_))))
  refine g1 1 (.agg [(eL x_1.a)]) (rfl : (_ : V) = (.ref (.bx 1) 0 [] (.agg [(eL x_1.a)]))) fun h4 => ?_
  refine g1 4 (.fn 165 [(.agg [(eL x_1.a)])] []) h4 fun h5 => ?_
  obtain ⟨r_2, E_r_2, h⟩ := bind_some h
  refine g_call (m := 0) (al := false) (r := (Enc.enc (r_2 : (List Int)))) [Enc.enc (x_1 : (S1 (List Int))), Enc.enc (0 : Int), Arg.arg ((Cl.mk (x_1, ()) () : (Cl 165 ((S1 (List Int)) × Unit) Unit)) : (Cl 165 ((S1 (List Int)) × Unit) Unit))] (ta_cons (v := (.agg [(eL x_1.a)])) h3 rfl (Enc.erase_enc (x_1 : (S1 (List Int)))) (ta_cons (v := (ji 0)) rfl rfl rfl (ta_cons (v := (.fn 165 [(.agg [(eL x_1.a)])] [])) h5 rfl (erase_fn (erases_cons (Enc.erase_enc (x_1 : (S1 (List Int)))) erases_nil) erases_nil) ta_nil))) (H.c164s1 _ _ _ _ E_r_2) H.g164s1 rfl rfl rfl rfl ?_
  obtain ⟨e_3, E_e_3, h⟩ := bind_some h
  refine gv (.ref .sh 0 [] (ji e_3)) (ev_idx (t := .sh) (lo := 0) (xs := r_2) rfl rfl E_e_3 rfl rfl) fun h7 => ?_
  refine g1 7 (ji e_3) h7 fun h8 => ?_
  refine gm h8 fun h2 => gq (.nsq (.ret ?_))
  have hr := Option.some.inj h
  subst hr
  exact rrA (res_tmp h2) rfl
end
def e116 (F : Nat) : Ent := ent 116 (fun (x : ((S1 (List Int)) × Unit)) => i_net_pathwidth F x.1) (fun (r : Int) => (Enc.enc (r : Int))) 0 false []
theorem p116 {F : Nat} {x0 : (S1 (List Int))} {r : Int} (h : i_net_pathwidth F x0 = some r) : (e116 F).den [Enc.enc x0] = some (Enc.enc (r : Int)) := ent_put (x0, ()) h
theorem o116 {D : Den} {σ : Sig} {F : Nat} (hF : Fits2 Try.prog D σ) (H : H116 D σ F) : (e116 F).Ok Try.prog := by
  refine ok_of (f := 116) (show unk 116 = 116 from rfl) (fun args r h => ?_) ⟨Try.f116, Try.func116, rfl, rfl⟩
  obtain ⟨⟨x0, _⟩, y, rfl, hy, rfl⟩ := da_open h
  exact contract_run hF (by kernel_rfl) Try.func116 rfl c116 (show 1 ≤ Try.f116.ntmps by decide) (t116 H x0 _ rfl hy)
/- loop.example/g01109/impl.SearchNumber -/
def A56_1 : AC := (.cond (.t 11) (.seq (.reg [] [((jv 2 (.mov (jn 0)))), ((jv 3 (.mov (.k (.bool false)))))] []) .ret) .skip)
def A56_3 : AC := (.cond (.t 14) (.seq (.reg [] [((jv 2 (.mov (jn 0)))), ((jv 3 (.mov (.k (.bool true)))))] []) .ret) .skip)
def A56_4 : AC := (.seq (.reg [] [((jv 15 (.load (.ag [.s, .p]) (.t 1)))), (.mk (some 16) none false (.call (.k (.fn 65 [] [])) [(.t 15)])), (.mk (some 17) none false (.call (.k (.fn 116 [] [])) [(.t 16)])), ((jv 18 (.bin .add (.t 17) (jn 1)))), (jm 2 18), ((jv 3 (.mov (.k (.bool true)))))] []) .ret)
def A56_2 : AC := (.seq (.seq (.reg [] [((jv 12 (.fld (.t 1) 0 0))), ((jv 13 (.load .s (.t 12)))), ((jv 14 (.bin .eql (.t 13) (jn 0))))] []) A56_3) A56_4)
def A56_5 : AC := (.seq (.seq (.reg [] [((jv 4 (.load (.ag [.s, .p]) (.t 1)))), (.mk (some 5) none false (.call (.k (.fn 63 [] [])) [(.t 4)])), ((jv 6 (.un .not (.t 5)))), (jm 7 6), ((jg 8 7 false (.fld (.t 1) 0 0))), ((jg 9 7 false (.load .s (.t 8)))), ((jg 10 7 false (.bin .gtr (.t 9) (jn 6)))), ((jv 11 (.pick (.t 7) (.k (.bool true)) (.t 10))))] []) A56_1) A56_2)
def A56 : AC := (.seq (.reg [.clr [1]] [(.mk (some 1) none false (.box (.t 0))), ((jv 2 (.mov (jn 0)))), ((jv 3 (.mov (.k (.bool false)))))] []) A56_5)
def an56 : List An := [{ id := 0, pre := [.clr [1]], ep := [], lin := [], sp := [] }]
theorem c56 : cC Try.prog Try.f56.ntmps an56 (Try.f56.body.getD .skip) = some A56 := by kernel_rfl
structure H56 (D : Den) (σ : Sig) (F : Nat) : Prop where
  c63 : ∀ (x0 : (Int × (List (Int × Int)))) r, i_IsGraph F x0 = some r → D 63 [Enc.enc x0] = some (Enc.enc (r : Bool))
  g63 : σ 63 = some (0, false)
  c65 : ∀ (x0 : (Int × (List (Int × Int)))) r, i_netOf F x0 = some r → D 65 [Enc.enc x0] = some (Enc.enc (r : (S1 (List Int))))
  g65 : σ 65 = some (0, false)
  c116 : ∀ (x0 : (S1 (List Int))) r, i_net_pathwidth F x0 = some r → D 116 [Enc.enc x0] = some (Enc.enc (r : Int))
  g116 : σ 116 = some (0, false)
abbrev R56 (r : (Int × Bool)) : (Nat → V) → Prop := RR Try.prog [.tmp 2, .tmp 3] 0 false (.tup [Enc.enc (r.1 : Int), Enc.enc (r.2 : Bool)])
section
variable {D : Den} {σ : Sig} {F : Nat} {r : (Int × Bool)}
def i_SearchNumber_j1 (F : Nat) (x_1 : (Int × (List (Int × Int))))  (x_3 : Bool) : Option (Int × Bool) :=
  bif x_3 then
    some (0, false)
  else
    bif (x_1.1 == 0) then
      some (0, true)
    else
      (i_netOf F x_1).bind fun r_4 =>
      (i_net_pathwidth F r_4).bind fun r_5 =>
      some (w64 (r_5 + 1), true)
theorem t_f56_j1 (H : H56 D σ F) (x_1 : (Int × (List (Int × Int))))  (x_3 : Bool) (s : Nat → V) (hs : Facts [(1, (.ref (.bx 1) 0 [] (.agg [(ji x_1.1), (Enc.enc (x_1.2 : List (Int × Int)))]))), (2, (ji 0)), (3, (jb false)), (11, (jb x_3))] s) (h : i_SearchNumber_j1 F x_1  x_3 = some r) : Run D σ (R56 r) (.nrm [.sq A56_1, .sq A56_2]) s := by
  unfold i_SearchNumber_j1 at h
  obtain ⟨h1, h2, h3, h11⟩ := hs
  refine .nsq (run_cond (t := x_3) h11 h (fun h => ?_) (fun h => ?_))
  · refine .seq (rg (g0 (ji 0) fun h2 => g0 (jb false) fun h3 => ?_))
    refine gq (.nsq (.ret ?_))
    have hr := Option.some.inj h
    subst hr
    exact rrB (res_tmp h2) (res_tmp h3) rfl
  refine .skip (.nsq (.seq (.seq (rg (g1 1 (.ref (.bx 1) 0 [0] (ji x_1.1)) h1 fun h12 => ?_)))))
  refine g1 12 (ji x_1.1) h12 fun h13 => ?_
  refine g1 13 (jb (x_1.1 == 0)) h13 fun h14 => ?_
  refine gq (.nsq (run_cond (t := (x_1.1 == 0)) h14 h (fun h => ?_) (fun h => ?_)))
  · refine .seq (rg (g0 (ji 0) fun h2 => g0 (jb true) fun h3 => ?_))
    refine gq (.nsq (.ret ?_))
    have hr := Option.some.inj h
    subst hr
    exact rrB (res_tmp h2) (res_tmp h3) rfl
  refine .skip (.nsq (.seq (rg (g1 1 (.agg [(ji x_1.1), (Enc.enc (x_1.2 : List (Int × Int)))]) h1 fun h15 => ?_))))
  obtain ⟨r_4, E_r_4, h⟩ := bind_some h
  refine g_call (m := 0) (al := false) (r := (Enc.enc (r_4 : (S1 (List Int))))) [Enc.enc (x_1 : (Int × (List (Int × Int))))] (ta_cons (v := (.agg [(ji x_1.1), (Enc.enc (x_1.2 : List (Int × Int)))])) h15 rfl (Enc.erase_enc (x_1 : (Int × (List (Int × Int))))) ta_nil) (H.c65 _ _ E_r_4) H.g65 rfl rfl rfl rfl ?_
  obtain ⟨r_5, E_r_5, h⟩ := bind_some h
  refine g_call (m := 0) (al := false) (r := (Enc.enc (r_5 : Int))) [Enc.enc (r_4 : (S1 (List Int)))] (ta_cons (v := (.agg [(eL r_4.a)])) rfl rfl (Enc.erase_enc (r_4 : (S1 (List Int)))) ta_nil) (H.c116 _ _ E_r_5) H.g116 rfl rfl rfl rfl ?_
  refine g1 17 (ji (w64 (r_5 + 1))) (rfl : (_ : V) = (ji r_5)) fun h18 => ?_
  refine gm h18 fun h2 => g0 (jb true) fun h3 => ?_
  refine gq (.nsq (.ret ?_))
  have hr := Option.some.inj h
  subst hr
  exact rrB (res_tmp h2) (res_tmp h3) rfl
def i_SearchNumber (F : Nat) (x_1 : (Int × (List (Int × Int)))) : Option (Int × Bool) :=
  (i_IsGraph F x_1).bind fun r_6 =>
  bif (!r_6) then
    i_SearchNumber_j1 F x_1 true
  else
    i_SearchNumber_j1 F x_1 (decide (x_1.1 > 6))
theorem t56 (H : H56 D σ F) (x_1 : (Int × (List (Int × Int)))) (s : Nat → V) (hs : Facts [(0, (.agg [(ji x_1.1), (Enc.enc (x_1.2 : List (Int × Int)))]))] s) (h : i_SearchNumber F x_1 = some r) : Run D σ (R56 r) (.run A56 []) s := by
  unfold i_SearchNumber at h
  have h0 := hs
  refine .seq (run_reg ?_)
  refine e_clr ?_
  refine ez [(0, _), (1, _)] ⟨(keep_clear (pk := [1]) h0 rfl (map_agg (maps_cons mi (maps_cons me maps_nil)))), (gone_clear (pk := [1]) (t := 1) rfl)⟩ ?_
  rintro s ⟨h0, h1⟩
  refine g_box (.agg [(ji x_1.1), (Enc.enc (x_1.2 : List (Int × Int)))]) (rd_of h0 rfl) h1 rfl ?_
  refine g0 (ji 0) fun h2 => g0 (jb false) fun h3 => ?_
  refine gq (.nsq (.seq (.seq (rg (g1 1 (.agg [(ji x_1.1), (Enc.enc (x_1.2 : List (Int × Int)))]) (rfl : (_ : V) = (.ref (.bx 1) 0 [] (.agg [(ji x_1.1), (Enc.enc (x_1.2 : List (Int × Int)))]))) fun h4 => ?_)))))
  obtain ⟨r_6, E_r_6, h⟩ := bind_some h
  refine g_call (m := 0) (al := false) (r := (Enc.enc (r_6 : Bool))) [Enc.enc (x_1 : (Int × (List (Int × Int))))] (ta_cons (v := (.agg [(ji x_1.1), (Enc.enc (x_1.2 : List (Int × Int)))])) h4 rfl (Enc.erase_enc (x_1 : (Int × (List (Int × Int))))) ta_nil) (H.c63 _ _ E_r_6) H.g63 rfl rfl rfl rfl ?_
  refine g1 5 (jb (!r_6)) (rfl : (_ : V) = (jb r_6)) fun h6 => ?_
  refine gm h6 fun h7 => split_on (c := (!r_6)) h (fun hg4 h => ?_) (fun hg4 h => ?_)
  · refine g_no (h7.trans (congrArg V.bool hg4)) ?_
    refine g_no (h7.trans (congrArg V.bool hg4)) ?_
    refine g_no (h7.trans (congrArg V.bool hg4)) ?_
    refine g2 7 10 (jb true) (h7.trans (congrArg V.bool hg4)) (rfl : (_ : V) = (.tup [])) fun h11 => ?_
    refine gq ?_
    exact t_f56_j1 H x_1 true _ ⟨rfl, h2, h3, h11⟩ h
  refine g_yes (h7.trans (congrArg V.bool hg4)) (g1 1 (.ref (.bx 1) 0 [0] (ji x_1.1)) (rfl : (_ : V) = (.ref (.bx 1) 0 [] (.agg [(ji x_1.1), (Enc.enc (x_1.2 : List (Int × Int)))]))) fun h8 => ?_)
  refine g_yes (h7.trans (congrArg V.bool hg4)) (g1 8 (ji x_1.1) h8 fun h9 => ?_)
  refine g_yes (h7.trans (congrArg V.bool hg4)) (g1 9 (jb (decide (x_1.1 > 6))) h9 fun h10 => ?_)
  refine g2 7 10 (jb (decide (x_1.1 > 6))) (h7.trans (congrArg V.bool hg4)) h10 fun h11 => ?_
  refine gq ?_
  exact t_f56_j1 H x_1 (decide (x_1.1 > 6)) _ ⟨rfl, h2, h3, h11⟩ h
end
def e56 (F : Nat) : Ent := ent 56 (fun (x : ((Int × (List (Int × Int))) × Unit)) => i_SearchNumber F x.1) (fun (r : (Int × Bool)) => (.tup [Enc.enc (r.1 : Int), Enc.enc (r.2 : Bool)])) 0 false []
theorem p56 {F : Nat} {x0 : (Int × (List (Int × Int)))} {r : (Int × Bool)} (h : i_SearchNumber F x0 = some r) : (e56 F).den [Enc.enc x0] = some (.tup [Enc.enc (r.1 : Int), Enc.enc (r.2 : Bool)]) := ent_put (x0, ()) h
theorem o56 {D : Den} {σ : Sig} {F : Nat} (hF : Fits2 Try.prog D σ) (H : H56 D σ F) : (e56 F).Ok Try.prog := by
  refine ok_of (f := 56) (show unk 56 = 56 from rfl) (fun args r h => ?_) ⟨Try.f56, Try.func56, rfl, rfl⟩
  obtain ⟨⟨x0, _⟩, y, rfl, hy, rfl⟩ := da_open h
  exact contract_run hF (by kernel_rfl) Try.func56 rfl c56 (show 1 ≤ Try.f56.ntmps by decide) (t56 H x0 _ rfl hy)
/- loop.example/g01109/laws.eqIntA2 -/
def A129_2 : AC := (.cond (.t 7) .skip (.exit 0))
def A129_4 : AC := (.cond (.t 16) (.seq (.reg [] [((jv 4 (.mov (.k (.bool false)))))] []) .ret) .skip)
def A129_5 : AC := (.reg [] [(jm 8 5), ((jv 9 (.bin .add (.t 8) (jn 1)))), (jm 5 9)] [])
def A129_3 : AC := (.seq (.block 1 (.seq (.reg [] [(jm 10 5), ((jv 11 (.idxA (.t 2) (.t 10) 2 1))), ((jv 12 (.load .s (.t 11)))), (jm 13 5), ((jv 14 (.idxA (.t 3) (.t 13) 2 1))), ((jv 15 (.load .s (.t 14)))), ((jv 16 (.bin .neq (.t 12) (.t 15))))] []) A129_4)) A129_5)
def A129_1 : AC := (.seq (.seq (.reg [] [(jm 6 5), ((jv 7 (.bin .lss (.t 6) (jn 2))))] []) A129_2) A129_3)
def A129_6 : AC := (.seq (.reg [] [((jv 4 (.mov (.k (.bool true)))))] []) .ret)
def A129_8 : AC := (.block 0 (.loop A129_1))
def A129_7 : AC := (.seq (.seq (.reg [] [((jv 5 (.mov (jn 0))))] []) A129_8) A129_6)
def A129 : AC := (.seq (.reg [.clr [2, 3]] [(.mk (some 2) none false (.box (.t 0))), (.mk (some 3) none false (.box (.t 1))), ((jv 4 (.mov (.k (.bool false)))))] []) A129_7)
def an129 : List An := [{ id := 0, pre := [.clr [2, 3]], ep := [], lin := [], sp := [] }]
theorem c129 : cC Try.prog Try.f129.ntmps an129 (Try.f129.body.getD .skip) = some A129 := by kernel_rfl
structure H129 (D : Den) (σ : Sig) (F : Nat) : Prop where
  mk ::
abbrev R129 (r : Bool) : (Nat → V) → Prop := RR Try.prog [.tmp 4] 0 false (Enc.enc (r : Bool))
section
variable {D : Den} {σ : Sig} {F : Nat} {r : Bool}
def w_eqIntA2_l1 (F : Nat) (x_1 : (Int × Int)) (x_2 : (Int × Int))  : Nat → Int → Option Bool
  | 0, _ => none
  | k + 1, x_3 =>
    bif decide (x_3 < 2) then
      (idx [x_1.1, x_1.2] x_3).bind fun e_6 =>
      (idx [x_2.1, x_2.2] x_3).bind fun e_7 =>
      bif (e_6 != e_7) then
        some false
      else
        (w_eqIntA2_l1 F x_1 x_2 k) (w64 (x_3 + 1))
    else
      some true
theorem t_f129_l1 (H : H129 D σ F) (x_1 : (Int × Int)) (x_2 : (Int × Int))  : ∀ (k : Nat) (x_3 : Int) (s : Nat → V), Facts [(2, (.ref (.bx 2) 0 [] (.agg [(ji x_1.1), (ji x_1.2)]))), (3, (.ref (.bx 3) 0 [] (.agg [(ji x_2.1), (ji x_2.2)]))), (4, (jb false)), (5, (ji x_3))] s → w_eqIntA2_l1 F x_1 x_2 k x_3 = some r → Run D σ (R129 r) (.run A129_1 [.lp A129_1, .bk 0, .sq A129_6]) s := by
  intro k
  induction k with
  | zero => intro x_3 s _ h; exact nomatch (h : (none : Option _) = some r)
  | succ k ih =>
    intro x_3 s hs h
    rw [w_eqIntA2_l1] at h
    obtain ⟨h2, h3, h4, h5⟩ := hs
    refine .seq (.seq (rg (gm h5 fun h6 => g1 6 (jb (decide (x_3 < 2))) h6 fun h7 => ?_)))
    refine gq (.nsq (run_cond (t := decide (x_3 < 2)) h7 h (fun h => ?_) (fun h => ?_)))
    · refine .skip (.nsq (.seq (.block (.seq (rg (gm h5 fun h10 => ?_))))))
      obtain ⟨e_6, E_e_6, h⟩ := bind_some h
      refine gv (.ref (.bx 2) 0 [x_3.toNat] (ji e_6)) (ev_idxA (xs := [x_1.1, x_1.2]) (a := e_6) (n := x_3) (q := []) h2 h10 E_e_6 rfl rfl rfl) fun h11 => ?_
      refine g1 11 (ji e_6) h11 fun h12 => ?_
      refine gm h5 fun h13 => ?_
      obtain ⟨e_7, E_e_7, h⟩ := bind_some h
      refine gv (.ref (.bx 3) 0 [x_3.toNat] (ji e_7)) (ev_idxA (xs := [x_2.1, x_2.2]) (a := e_7) (n := x_3) (q := []) h3 h13 E_e_7 rfl rfl rfl) fun h14 => ?_
      refine g1 14 (ji e_7) h14 fun h15 => ?_
      refine g2 12 15 (jb (e_6 != e_7)) h12 h15 fun h16 => ?_
      refine gq (.nsq (run_cond (t := (e_6 != e_7)) h16 h (fun h => ?_) (fun h => ?_)))
      · refine .seq (rg (g0 (jb false) fun h4 => ?_))
        refine gq (.nsq (.ret ?_))
        have hr := Option.some.inj h
        subst hr
        exact rrA (res_tmp h4) rfl
      refine .skip (.nbk (.nsq (rg (gm h5 fun h8 => g1 8 (ji (w64 (x_3 + 1))) h8 fun h9 => ?_))))
      refine gm h9 fun h5 => gq (.nlp ?_)
      exact ih (w64 (x_3 + 1)) _ ⟨h2, h3, h4, h5⟩ h
    refine .exit (.esq (.elp (.ebk (.nsq (.seq (rg (g0 (jb true) fun h4 => ?_)))))))
    refine gq (.nsq (.ret ?_))
    have hr := Option.some.inj h
    subst hr
    exact rrA (res_tmp h4) rfl
def w_eqIntA2 (F : Nat) (x_1 : (Int × Int)) (x_2 : (Int × Int)) : Option Bool :=
  w_eqIntA2_l1 F x_1 x_2 F 0
theorem t129 (H : H129 D σ F) (x_1 : (Int × Int)) (x_2 : (Int × Int)) (s : Nat → V) (hs : Facts [(0, (.agg [(ji x_1.1), (ji x_1.2)])), (1, (.agg [(ji x_2.1), (ji x_2.2)]))] s) (h : w_eqIntA2 F x_1 x_2 = some r) : Run D σ (R129 r) (.run A129 []) s := by
  unfold w_eqIntA2 at h
  obtain ⟨h0, h1⟩ := hs
  refine .seq (run_reg ?_)
  refine e_clr ?_
  refine ez [(0, _), (1, _), (2, _), (3, _)] ⟨(keep_clear (pk := [2, 3]) h0 rfl (map_agg (maps_cons mi (maps_cons mi maps_nil)))), (keep_clear (pk := [2, 3]) h1 rfl (map_agg (maps_cons mi (maps_cons mi maps_nil)))), (gone_clear (pk := [2, 3]) (t := 2) rfl), (gone_clear (pk := [2, 3]) (t := 3) rfl)⟩ ?_
  rintro s ⟨h0, h1, h2, h3⟩
  refine g_box (.agg [(ji x_1.1), (ji x_1.2)]) (rd_of h0 rfl) h2 rfl ?_
  refine g_box (.agg [(ji x_2.1), (ji x_2.2)]) (rd_of h1 rfl) h3 rfl ?_
  refine g0 (jb false) fun h4 => ?_
  refine gq (.nsq (.seq (.seq (rg (g0 (ji 0) fun h5 => gq (.nsq (.block (.loop ?_))))))))
  exact t_f129_l1 H x_1 x_2 F 0 _ ⟨rfl, rfl, h4, h5⟩ h
end
def e129 (F : Nat) : Ent := ent 129 (fun (x : ((Int × Int) × (Int × Int) × Unit)) => w_eqIntA2 F x.1 x.2.1) (fun (r : Bool) => (Enc.enc (r : Bool))) 0 false []
theorem p129 {F : Nat} {x0 : (Int × Int)} {x1 : (Int × Int)} {r : Bool} (h : w_eqIntA2 F x0 x1 = some r) : (e129 F).den [Enc.enc x0, Enc.enc x1] = some (Enc.enc (r : Bool)) := ent_put (x0, x1, ()) h
theorem o129 {D : Den} {σ : Sig} {F : Nat} (hF : Fits2 Try.prog D σ) (H : H129 D σ F) : (e129 F).Ok Try.prog := by
  refine ok_of (f := 129) (show unk 129 = 129 from rfl) (fun args r h => ?_) ⟨Try.f129, Try.func129, rfl, rfl⟩
  obtain ⟨⟨x0, x1, _⟩, y, rfl, hy, rfl⟩ := da_open h
  exact contract_run hF (by kernel_rfl) Try.func129 rfl c129 (show 2 ≤ Try.f129.ntmps by decide) (t129 H x0 x1 _ ⟨rfl, rfl⟩ hy)
/- loop.example/g01109/laws.eqIntA2S -/
def A68_2 : AC := (.cond (.t 14) .skip (.exit 0))
def A68_4 : AC := (.cond (.t 26) (.seq (.reg [] [((jv 4 (.mov (.k (.bool false)))))] []) .ret) .skip)
def A68_5 : AC := (.reg [] [(jm 15 5), ((jv 16 (.bin .add (.t 15) (jn 1)))), (jm 5 16)] [])
def A68_3 : AC := (.seq (.block 1 (.seq (.reg [] [(jm 17 0), (jm 18 5), ((jv 19 (.idx (.t 17) (.t 18) 2))), ((jv 20 (.load (.ag [.s, .s]) (.t 19)))), (jm 21 1), (jm 22 5), ((jv 23 (.idx (.t 21) (.t 22) 2))), ((jv 24 (.load (.ag [.s, .s]) (.t 23)))), (.mk (some 25) none false (.call (.k (.fn 129 [] [])) [(.t 20), (.t 24)])), ((jv 26 (.un .not (.t 25))))] []) A68_4)) A68_5)
def A68_1 : AC := (.seq (.seq (.reg [] [(jm 11 5), (jm 12 0), ((jv 13 (.len (.t 12)))), ((jv 14 (.bin .lss (.t 11) (.t 13))))] []) A68_2) A68_3)
def A68_6 : AC := (.seq (.reg [] [((jv 4 (.mov (.k (.bool true)))))] []) .ret)
def A68_8 : AC := (.cond (.t 10) (.seq (.reg [] [((jv 4 (.mov (.k (.bool false)))))] []) .ret) .skip)
def A68_10 : AC := (.block 0 (.loop A68_1))
def A68_9 : AC := (.seq (.seq (.reg [] [((jv 5 (.mov (jn 0))))] []) A68_10) A68_6)
def A68_7 : AC := (.seq (.seq (.reg [] [(jm 6 0), ((jv 7 (.len (.t 6)))), (jm 8 1), ((jv 9 (.len (.t 8)))), ((jv 10 (.bin .neq (.t 7) (.t 9))))] []) A68_8) A68_9)
def A68 : AC := (.seq (.reg [] [((jv 4 (.mov (.k (.bool false)))))] []) A68_7)
def an68 : List An := []
theorem c68 : cC Try.prog Try.f68.ntmps an68 (Try.f68.body.getD .skip) = some A68 := by kernel_rfl
structure H68 (D : Den) (σ : Sig) (F : Nat) : Prop where
  c129 : ∀ (x0 : (Int × Int)) (x1 : (Int × Int)) r, w_eqIntA2 F x0 x1 = some r → D 129 [Enc.enc x0, Enc.enc x1] = some (Enc.enc (r : Bool))
  g129 : σ 129 = some (0, false)
abbrev R68 (r : Bool) : (Nat → V) → Prop := RR Try.prog [.tmp 4] 0 false (Enc.enc (r : Bool))
section
variable {D : Den} {σ : Sig} {F : Nat} {r : Bool}
def w_eqIntA2S_l1 (F : Nat) (x_1 : (List (Int × Int))) (x_2 : (List (Int × Int)))  : Nat → Int → Option Bool
  | 0, _ => none
  | k + 1, x_6 =>
    bif decide (x_6 < (x_1.length : Int)) then
      (idx x_1 x_6).bind fun e_10 =>
      (idx x_2 x_6).bind fun e_11 =>
      (w_eqIntA2 F e_10 e_11).bind fun r_12 =>
      bif (!r_12) then
        some false
      else
        (w_eqIntA2S_l1 F x_1 x_2 k) (w64 (x_6 + 1))
    else
      some true
theorem t_f68_l1 (H : H68 D σ F) (x_1 : (List (Int × Int))) (x_2 : (List (Int × Int)))  : ∀ (k : Nat) (x_6 : Int) (s : Nat → V), Facts [(0, (Enc.enc (x_1 : List (Int × Int)))), (1, (Enc.enc (x_2 : List (Int × Int)))), (4, (jb false)), (5, (ji x_6))] s → w_eqIntA2S_l1 F x_1 x_2 k x_6 = some r → Run D σ (R68 r) (.run A68_1 [.lp A68_1, .bk 0, .sq A68_6]) s := by
  intro k
  induction k with
  | zero => intro x_6 s _ h; exact nomatch (h : (none : Option _) = some r)
  | succ k ih =>
    intro x_6 s hs h
    rw [w_eqIntA2S_l1] at h
    obtain ⟨h0, h1, h4, h5⟩ := hs
    refine .seq (.seq (rg (gm h5 fun h11 => gm h0 fun h12 => gv (ji (x_1.length : Int)) (ev_len (xs := x_1) h12) fun h13 => ?_)))
    refine g2 11 13 (jb (decide (x_6 < (x_1.length : Int)))) h11 h13 fun h14 => ?_
    refine gq (.nsq (run_cond (t := decide (x_6 < (x_1.length : Int))) h14 h (fun h => ?_) (fun h => ?_)))
    · refine .skip (.nsq (.seq (.block (.seq (rg (gm h0 fun h17 => gm h5 fun h18 => ?_))))))
      obtain ⟨e_10, E_e_10, h⟩ := bind_some h
      refine gv (.ref .sh 0 [] (.agg [(ji e_10.1), (ji e_10.2)])) (ev_idx (t := .sh) (lo := 0) (xs := x_1) h17 h18 E_e_10 rfl rfl) fun h19 => ?_
      refine g1 19 (.agg [(ji e_10.1), (ji e_10.2)]) h19 fun h20 => ?_
      refine gm h1 fun h21 => gm h5 fun h22 => ?_
      obtain ⟨e_11, E_e_11, h⟩ := bind_some h
      refine gv (.ref .sh 0 [] (.agg [(ji e_11.1), (ji e_11.2)])) (ev_idx (t := .sh) (lo := 0) (xs := x_2) h21 h22 E_e_11 rfl rfl) fun h23 => ?_
      refine g1 23 (.agg [(ji e_11.1), (ji e_11.2)]) h23 fun h24 => ?_
      obtain ⟨r_12, E_r_12, h⟩ := bind_some h
      refine g_call (m := 0) (al := false) (r := (Enc.enc (r_12 : Bool))) [Enc.enc (e_10 : (Int × Int)), Enc.enc (e_11 : (Int × Int))] (ta_cons (v := (.agg [(ji e_10.1), (ji e_10.2)])) h20 rfl (Enc.erase_enc (e_10 : (Int × Int))) (ta_cons (v := (.agg [(ji e_11.1), (ji e_11.2)])) h24 rfl (Enc.erase_enc (e_11 : (Int × Int))) ta_nil)) (H.c129 _ _ _ E_r_12) H.g129 rfl rfl rfl rfl ?_
      refine g1 25 (jb (!r_12)) (rfl : (_ : V) = (jb r_12)) fun h26 => ?_
      refine gq (.nsq (run_cond (t := (!r_12)) h26 h (fun h => ?_) (fun h => ?_)))
      · refine .seq (rg (g0 (jb false) fun h4 => ?_))
        refine gq (.nsq (.ret ?_))
        have hr := Option.some.inj h
        subst hr
        exact rrA (res_tmp h4) rfl
      refine .skip (.nbk (.nsq (rg (gm h5 fun h15 => g1 15 (ji (w64 (x_6 + 1))) h15 fun h16 => ?_))))
      refine gm h16 fun h5 => gq (.nlp ?_)
      exact ih (w64 (x_6 + 1)) _ ⟨h0, h1, h4, h5⟩ h
    refine .exit (.esq (.elp (.ebk (.nsq (.seq (rg (g0 (jb true) fun h4 => ?_)))))))
    refine gq (.nsq (.ret ?_))
    have hr := Option.some.inj h
    subst hr
    exact rrA (res_tmp h4) rfl
def w_eqIntA2S (F : Nat) (x_1 : (List (Int × Int))) (x_2 : (List (Int × Int))) : Option Bool :=
  bif ((x_1.length : Int) != (x_2.length : Int)) then
    some false
  else
    w_eqIntA2S_l1 F x_1 x_2 F 0
theorem t68 (H : H68 D σ F) (x_1 : (List (Int × Int))) (x_2 : (List (Int × Int))) (s : Nat → V) (hs : Facts [(0, (Enc.enc (x_1 : List (Int × Int)))), (1, (Enc.enc (x_2 : List (Int × Int))))] s) (h : w_eqIntA2S F x_1 x_2 = some r) : Run D σ (R68 r) (.run A68 []) s := by
  unfold w_eqIntA2S at h
  obtain ⟨h0, h1⟩ := hs
  refine .seq (rg (g0 (jb false) fun h4 => ?_))
  refine gq (.nsq (.seq (.seq (rg (gm h0 fun h6 => gv (ji (x_1.length : Int)) (ev_len (xs := x_1) h6) fun h7 => ?_)))))
  refine gm h1 fun h8 => gv (ji (x_2.length : Int)) (ev_len (xs := x_2) h8) fun h9 => ?_
  refine g2 7 9 (jb ((x_1.length : Int) != (x_2.length : Int))) h7 h9 fun h10 => ?_
  refine gq (.nsq (run_cond (t := ((x_1.length : Int) != (x_2.length : Int))) h10 h (fun h => ?_) (fun h => ?_)))
  · refine .seq (rg (g0 (jb false) fun h4 => ?_))
    refine gq (.nsq (.ret ?_))
    have hr := Option.some.inj h
    subst hr
    exact rrA (res_tmp h4) rfl
  refine .skip (.nsq (.seq (.seq (rg (g0 (ji 0) fun h5 => gq (.nsq (.block (.loop ?_))))))))
  exact t_f68_l1 H x_1 x_2 F 0 _ ⟨h0, h1, h4, h5⟩ h
end
def e68 (F : Nat) : Ent := ent 68 (fun (x : ((List (Int × Int)) × (List (Int × Int)) × Unit)) => w_eqIntA2S F x.1 x.2.1) (fun (r : Bool) => (Enc.enc (r : Bool))) 0 false []
theorem p68 {F : Nat} {x0 : (List (Int × Int))} {x1 : (List (Int × Int))} {r : Bool} (h : w_eqIntA2S F x0 x1 = some r) : (e68 F).den [Enc.enc x0, Enc.enc x1] = some (Enc.enc (r : Bool)) := ent_put (x0, x1, ()) h
theorem o68 {D : Den} {σ : Sig} {F : Nat} (hF : Fits2 Try.prog D σ) (H : H68 D σ F) : (e68 F).Ok Try.prog := by
  refine ok_of (f := 68) (show unk 68 = 68 from rfl) (fun args r h => ?_) ⟨Try.f68, Try.func68, rfl, rfl⟩
  obtain ⟨⟨x0, x1, _⟩, y, rfl, hy, rfl⟩ := da_open h
  exact contract_run hF (by kernel_rfl) Try.func68 rfl c68 (show 2 ≤ Try.f68.ntmps by decide) (t68 H x0 x1 _ ⟨rfl, rfl⟩ hy)
/- loop.example/g01109/laws.eqGraph -/
def A20_2 : AC := (.cond (.t 9) (.seq (.reg [] [((jv 4 (.mov (.k (.bool false)))))] []) .ret) .skip)
def A20_4 : AC := (.cond (.t 15) (.seq (.reg [] [((jv 4 (.mov (.k (.bool false)))))] []) .ret) .skip)
def A20_5 : AC := (.seq (.reg [] [((jv 4 (.mov (.k (.bool true)))))] []) .ret)
def A20_3 : AC := (.seq (.seq (.reg [] [((jv 10 (.fld (.t 2) 1 1))), ((jv 11 (.load .p (.t 10)))), ((jv 12 (.fld (.t 3) 1 1))), ((jv 13 (.load .p (.t 12)))), (.mk (some 14) none false (.call (.k (.fn 68 [] [])) [(.t 11), (.t 13)])), ((jv 15 (.un .not (.t 14))))] []) A20_4) A20_5)
def A20_1 : AC := (.seq (.seq (.reg [] [((jv 5 (.fld (.t 2) 0 0))), ((jv 6 (.load .s (.t 5)))), ((jv 7 (.fld (.t 3) 0 0))), ((jv 8 (.load .s (.t 7)))), ((jv 9 (.bin .neq (.t 6) (.t 8))))] []) A20_2) A20_3)
def A20 : AC := (.seq (.reg [.clr [2, 3]] [(.mk (some 2) none false (.box (.t 0))), (.mk (some 3) none false (.box (.t 1))), ((jv 4 (.mov (.k (.bool false)))))] []) A20_1)
def an20 : List An := [{ id := 0, pre := [.clr [2, 3]], ep := [], lin := [], sp := [] }]
theorem c20 : cC Try.prog Try.f20.ntmps an20 (Try.f20.body.getD .skip) = some A20 := by kernel_rfl
structure H20 (D : Den) (σ : Sig) (F : Nat) : Prop where
  c68 : ∀ (x0 : (List (Int × Int))) (x1 : (List (Int × Int))) r, w_eqIntA2S F x0 x1 = some r → D 68 [Enc.enc x0, Enc.enc x1] = some (Enc.enc (r : Bool))
  g68 : σ 68 = some (0, false)
abbrev R20 (r : Bool) : (Nat → V) → Prop := RR Try.prog [.tmp 4] 0 false (Enc.enc (r : Bool))
section
variable {D : Den} {σ : Sig} {F : Nat} {r : Bool}
def w_eqGraph (F : Nat) (x_1 : (Int × (List (Int × Int)))) (x_2 : (Int × (List (Int × Int)))) : Option Bool :=
  bif (x_1.1 != x_2.1) then
    some false
  else
    (w_eqIntA2S F x_1.2 x_2.2).bind fun r_3 =>
    bif (!r_3) then
      some false
    else
      some true
theorem t20 (H : H20 D σ F) (x_1 : (Int × (List (Int × Int)))) (x_2 : (Int × (List (Int × Int)))) (s : Nat → V) (hs : Facts [(0, (.agg [(ji x_1.1), (Enc.enc (x_1.2 : List (Int × Int)))])), (1, (.agg [(ji x_2.1), (Enc.enc (x_2.2 : List (Int × Int)))]))] s) (h : w_eqGraph F x_1 x_2 = some r) : Run D σ (R20 r) (.run A20 []) s := by
  unfold w_eqGraph at h
  obtain ⟨h0, h1⟩ := hs
  refine .seq (run_reg ?_)
  refine e_clr ?_
  refine ez [(0, _), (1, _), (2, _), (3, _)] ⟨(keep_clear (pk := [2, 3]) h0 rfl (map_agg (maps_cons mi (maps_cons me maps_nil)))), (keep_clear (pk := [2, 3]) h1 rfl (map_agg (maps_cons mi (maps_cons me maps_nil)))), (gone_clear (pk := [2, 3]) (t := 2) rfl), (gone_clear (pk := [2, 3]) (t := 3) rfl)⟩ ?_
  rintro s ⟨h0, h1, h2, h3⟩
  refine g_box (.agg [(ji x_1.1), (Enc.enc (x_1.2 : List (Int × Int)))]) (rd_of h0 rfl) h2 rfl ?_
  refine g_box (.agg [(ji x_2.1), (Enc.enc (x_2.2 : List (Int × Int)))]) (rd_of h1 rfl) h3 rfl ?_
  refine g0 (jb false) fun h4 => ?_
  refine gq (.nsq (.seq (.seq (rg (g1 2 (.ref (.bx 2) 0 [0] (ji x_1.1)) (rfl : (_ : V) = (.ref (.bx 2) 0 [] (.agg [(ji x_1.1), (Enc.enc (x_1.2 : List (Int × Int)))]))) fun h5 => ?_)))))
  refine g1 5 (ji x_1.1) h5 fun h6 => ?_
  refine g1 3 (.ref (.bx 3) 0 [0] (ji x_2.1)) (rfl : (_ : V) = (.ref (.bx 3) 0 [] (.agg [(ji x_2.1), (Enc.enc (x_2.2 : List (Int × Int)))]))) fun h7 => ?_
  refine g1 7 (ji x_2.1) h7 fun h8 => ?_
  refine g2 6 8 (jb (x_1.1 != x_2.1)) h6 h8 fun h9 => ?_
  refine gq (.nsq (run_cond (t := (x_1.1 != x_2.1)) h9 h (fun h => ?_) (fun h => ?_)))
  · refine .seq (rg (g0 (jb false) fun h4 => ?_))
    refine gq (.nsq (.ret ?_))
    have hr := Option.some.inj h
    subst hr
    exact rrA (res_tmp h4) rfl
  refine .skip (.nsq (.seq (.seq (rg (g1 2 (.ref (.bx 2) 0 [1] (Enc.enc (x_1.2 : List (Int × Int)))) (rfl : (_ : V) = (.ref (.bx 2) 0 [] (.agg [(ji x_1.1), (Enc.enc (x_1.2 : List (Int × Int)))]))) fun h10 => ?_)))))
  refine g1 10 (Enc.enc (x_1.2 : List (Int × Int))) h10 fun h11 => ?_
  refine g1 3 (.ref (.bx 3) 0 [1] (Enc.enc (x_2.2 : List (Int × Int)))) (rfl : (_ : V) = (.ref (.bx 3) 0 [] (.agg [(ji x_2.1), (Enc.enc (x_2.2 : List (Int × Int)))]))) fun h12 => ?_
  refine g1 12 (Enc.enc (x_2.2 : List (Int × Int))) h12 fun h13 => ?_
  obtain ⟨r_3, E_r_3, h⟩ := bind_some h
  refine g_call (m := 0) (al := false) (r := (Enc.enc (r_3 : Bool))) [Enc.enc (x_1.2 : (List (Int × Int))), Enc.enc (x_2.2 : (List (Int × Int)))] (ta_cons (v := (Enc.enc (x_1.2 : List (Int × Int)))) h11 rfl (Enc.erase_enc (x_1.2 : (List (Int × Int)))) (ta_cons (v := (Enc.enc (x_2.2 : List (Int × Int)))) h13 rfl (Enc.erase_enc (x_2.2 : (List (Int × Int)))) ta_nil)) (H.c68 _ _ _ E_r_3) H.g68 rfl rfl rfl rfl ?_
  refine g1 14 (jb (!r_3)) (rfl : (_ : V) = (jb r_3)) fun h15 => ?_
  refine gq (.nsq (run_cond (t := (!r_3)) h15 h (fun h => ?_) (fun h => ?_)))
  · refine .seq (rg (g0 (jb false) fun h4 => ?_))
    refine gq (.nsq (.ret ?_))
    have hr := Option.some.inj h
    subst hr
    exact rrA (res_tmp h4) rfl
  refine .skip (.nsq (.seq (rg (g0 (jb true) fun h4 => ?_))))
  refine gq (.nsq (.ret ?_))
  have hr := Option.some.inj h
  subst hr
  exact rrA (res_tmp h4) rfl
end
def e20 (F : Nat) : Ent := ent 20 (fun (x : ((Int × (List (Int × Int))) × (Int × (List (Int × Int))) × Unit)) => w_eqGraph F x.1 x.2.1) (fun (r : Bool) => (Enc.enc (r : Bool))) 0 false []
theorem p20 {F : Nat} {x0 : (Int × (List (Int × Int)))} {x1 : (Int × (List (Int × Int)))} {r : Bool} (h : w_eqGraph F x0 x1 = some r) : (e20 F).den [Enc.enc x0, Enc.enc x1] = some (Enc.enc (r : Bool)) := ent_put (x0, x1, ()) h
theorem o20 {D : Den} {σ : Sig} {F : Nat} (hF : Fits2 Try.prog D σ) (H : H20 D σ F) : (e20 F).Ok Try.prog := by
  refine ok_of (f := 20) (show unk 20 = 20 from rfl) (fun args r h => ?_) ⟨Try.f20, Try.func20, rfl, rfl⟩
  obtain ⟨⟨x0, x1, _⟩, y, rfl, hy, rfl⟩ := da_open h
  exact contract_run hF (by kernel_rfl) Try.func20 rfl c20 (show 2 ≤ Try.f20.ntmps by decide) (t20 H x0 x1 _ ⟨rfl, rfl⟩ hy)
/- loop.example/g01109/laws.FnExactSearchNumber -/
def A13_1 : AC := (.cond (.t 34) (.seq (.reg [] [((jv 2 (.mov (.k (.bool false)))))] []) .ret) .skip)
def A13_3 : AC := (.cond (.t 39) (.seq (.reg [] [((jv 2 (.mov (.k (.bool false)))))] []) .ret) .skip)
def A13_4 : AC := (.seq (.reg [] [((jv 2 (.mov (.k (.bool true)))))] []) .ret)
def A13_2 : AC := (.seq (.seq (.reg [] [((jv 35 (.load (.ag [.s, .p]) (.t 6)))), ((jv 36 (.load (.ag [.s, .p]) (.t 1)))), (.mk (some 37) none false (.call (.k (.fn 17 [] [])) [(.t 36)])), (.mk (some 38) none false (.call (.k (.fn 20 [] [])) [(.t 35), (.t 37)])), ((jv 39 (.un .not (.t 38))))] []) A13_3) A13_4)
def A13_8 : AC := (.cond (.t 13) (.seq (.reg [] [((jv 2 (.mov (.k (.bool true)))))] []) .ret) .skip)
def A13_12 : AC := (.seq (.seq (.reg [] [(jm 27 7), (jm 28 4), ((jv 29 (.bin .neq (.t 27) (.t 28)))), (jm 30 29), ((jg 31 30 false (.mov (.t 8)))), ((jg 32 30 false (.mov (.t 5)))), ((jg 33 30 false (.beq true (.t 31) (.t 32)))), ((jv 34 (.pick (.t 30) (.k (.bool true)) (.t 33))))] []) A13_1) A13_2)
def A13_11 : AC := (.seq (.reg [] [((jv 23 (.load (.ag [.s, .p]) (.t 6)))), (.mk (some 24) none false (.call (.k (.fn 56 [] [])) [(.t 23)])), (jm 22 24), ((jv 25 (.extS (.t 22) 0))), ((jv 26 (.extS (.t 22) 1))), (jm 7 25), (jm 8 26)] []) A13_12)
def A13_10 : AC := (.seq (.reg [.clr [6]] [((jv 20 (.load (.ag [.s, .p]) (.t 1)))), (.mk (some 21) none false (.call (.k (.fn 17 [] [])) [(.t 20)])), (.mk (some 6) none false (.alloc (.agg [(.int .i64 (.ofNat 0)), (.sl .nl (.ag [.s, .s]) 0 [])]))), (.mk none none false (.store (.ag [.s, .p]) (.t 6) (.t 21)))] []) A13_11)
def A13_9 : AC := (.seq (.reg [] [((jv 15 (.load (.ag [.s, .p]) (.t 1)))), (.mk (some 16) none false (.call (.k (.fn 17 [] [])) [(.t 15)])), (.mk (some 17) none false (.call (.k (.fn 55 [] [])) [(.t 16)])), (jm 14 17), ((jv 18 (.extS (.t 14) 0))), ((jv 19 (.extS (.t 14) 1))), (jm 4 18), (jm 5 19)] []) A13_10)
def A13_7 : AC := (.seq (.seq (.reg [] [(jm 12 3), ((jv 13 (.bin .lss (.t 12) (jn 0))))] []) A13_8) A13_9)
def A13_6 : AC := (.seq (.reg [] [((jv 9 (.load (.ag [.s, .p]) (.t 1)))), (jm 10 3), (.mk (some 11) none false (.call (.k (.fn 15 [] [])) [(.t 9), (.t 10)])), (jm 3 11)] []) A13_7)
def A13_5 : AC := (.seq (.reg [] [((jv 3 (.mov (jn 1048576))))] []) A13_6)
def A13 : AC := (.seq (.reg [.clr [1]] [(.mk (some 1) none false (.box (.t 0))), ((jv 2 (.mov (.k (.bool false)))))] []) A13_5)
def an13 : List An := [{ id := 0, pre := [.clr [1]], ep := [], lin := [], sp := [] }, { id := 6, pre := [.clr [6]], ep := [], lin := [], sp := [] }]
theorem c13 : cC Try.prog Try.f13.ntmps an13 (Try.f13.body.getD .skip) = some A13 := by kernel_rfl
structure H13 (D : Den) (σ : Sig) (F : Nat) : Prop where
  c15 : ∀ (x0 : (Int × (List (Int × Int)))) (x1 : Int) r, w_szGraph F x0 x1 = some r → D 15 [Enc.enc x0, Enc.enc x1] = some (Enc.enc (r : Int))
  g15 : σ 15 = some (0, false)
  c17 : ∀ (x0 : (Int × (List (Int × Int)))) r, w_toGraph F x0 = some r → D 17 [Enc.enc x0] = some (Enc.enc (r : (Int × (List (Int × Int)))))
  g17 : σ 17 = some (0, true)
  c55 : ∀ (x0 : (Int × (List (Int × Int)))) r, s_SearchNumber F x0 = some r → D 55 [Enc.enc x0] = some (.tup [Enc.enc (r.1 : Int), Enc.enc (r.2 : Bool)])
  g55 : σ 55 = some (0, false)
  c56 : ∀ (x0 : (Int × (List (Int × Int)))) r, i_SearchNumber F x0 = some r → D 56 [Enc.enc x0] = some (.tup [Enc.enc (r.1 : Int), Enc.enc (r.2 : Bool)])
  g56 : σ 56 = some (0, false)
  c20 : ∀ (x0 : (Int × (List (Int × Int)))) (x1 : (Int × (List (Int × Int)))) r, w_eqGraph F x0 x1 = some r → D 20 [Enc.enc x0, Enc.enc x1] = some (Enc.enc (r : Bool))
  g20 : σ 20 = some (0, false)
abbrev R13 (r : Bool) : (Nat → V) → Prop := RR Try.prog [.tmp 2] 0 false (Enc.enc (r : Bool))
section
variable {D : Den} {σ : Sig} {F : Nat} {r : Bool}
def w_FnExactSearchNumber_j1 (F : Nat) (x_1 : (Int × (List (Int × Int)))) (r_5 : (Int × (List (Int × Int))))  (x_7 : Bool) : Option Bool :=
  bif x_7 then
    some false
  else
    (w_toGraph F x_1).bind fun r_8 =>
    (w_eqGraph F r_5 r_8).bind fun r_9 =>
    bif (!r_9) then
      some false
    else
      some true
theorem t_f13_j1 (H : H13 D σ F) (x_1 : (Int × (List (Int × Int)))) (r_5 : (Int × (List (Int × Int))))  (x_7 : Bool) (s : Nat → V) (hs : Facts [(1, (.ref (.bx 1) 0 [] (.agg [(ji x_1.1), (Enc.enc (x_1.2 : List (Int × Int)))]))), (2, (jb false)), (6, (.ref (.bx 6) 0 [] (.agg [(ji r_5.1), (Enc.enc (r_5.2 : List (Int × Int)))]))), (34, (jb x_7))] s) (h : w_FnExactSearchNumber_j1 F x_1 r_5  x_7 = some r) : Run D σ (R13 r) (.nrm [.sq A13_1, .sq A13_2]) s := by
  unfold w_FnExactSearchNumber_j1 at h
  obtain ⟨h1, h2, h6, h34⟩ := hs
  refine .nsq (run_cond (t := x_7) h34 h (fun h => ?_) (fun h => ?_))
  · refine .seq (rg (g0 (jb false) fun h2 => ?_))
    refine gq (.nsq (.ret ?_))
    have hr := Option.some.inj h
    subst hr
    exact rrA (res_tmp h2) rfl
  refine .skip (.nsq (.seq (.seq (rg (g1 6 (.agg [(ji r_5.1), (Enc.enc (r_5.2 : List (Int × Int)))]) h6 fun h35 => ?_)))))
  refine g1 1 (.agg [(ji x_1.1), (Enc.enc (x_1.2 : List (Int × Int)))]) h1 fun h36 => ?_
  obtain ⟨r_8, E_r_8, h⟩ := bind_some h
  refine g_call (m := 0) (al := true) (r := (Enc.enc (r_8 : (Int × (List (Int × Int)))))) [Enc.enc (x_1 : (Int × (List (Int × Int))))] (ta_cons (v := (.agg [(ji x_1.1), (Enc.enc (x_1.2 : List (Int × Int)))])) h36 rfl (Enc.erase_enc (x_1 : (Int × (List (Int × Int))))) ta_nil) (H.c17 _ _ E_r_8) H.g17 (hal_of (ht_cons (v := (.agg [(ji x_1.1), (Enc.enc (x_1.2 : List (Int × Int)))])) h36 rfl rfl ht_nil)) rfl rfl rfl ?_
  obtain ⟨r_9, E_r_9, h⟩ := bind_some h
  refine g_call (m := 0) (al := false) (r := (Enc.enc (r_9 : Bool))) [Enc.enc (r_5 : (Int × (List (Int × Int)))), Enc.enc (r_8 : (Int × (List (Int × Int))))] (ta_cons (v := (.agg [(ji r_5.1), (Enc.enc (r_5.2 : List (Int × Int)))])) h35 rfl (Enc.erase_enc (r_5 : (Int × (List (Int × Int))))) (ta_cons (v := (.agg [(ji r_8.1), (Enc.enc (r_8.2 : List (Int × Int)))])) rfl rfl (Enc.erase_enc (r_8 : (Int × (List (Int × Int))))) ta_nil)) (H.c20 _ _ _ E_r_9) H.g20 rfl rfl rfl rfl ?_
  refine g1 38 (jb (!r_9)) (rfl : (_ : V) = (jb r_9)) fun h39 => ?_
  refine gq (.nsq (run_cond (t := (!r_9)) h39 h (fun h => ?_) (fun h => ?_)))
  · refine .seq (rg (g0 (jb false) fun h2 => ?_))
    refine gq (.nsq (.ret ?_))
    have hr := Option.some.inj h
    subst hr
    exact rrA (res_tmp h2) rfl
  refine .skip (.nsq (.seq (rg (g0 (jb true) fun h2 => ?_))))
  refine gq (.nsq (.ret ?_))
  have hr := Option.some.inj h
  subst hr
  exact rrA (res_tmp h2) rfl
def w_FnExactSearchNumber (F : Nat) (x_1 : (Int × (List (Int × Int)))) : Option Bool :=
  (w_szGraph F x_1 1048576).bind fun r_2 =>
  bif decide (r_2 < 0) then
    some true
  else
    (w_toGraph F x_1).bind fun r_3 =>
    (s_SearchNumber F r_3).bind fun r_4 =>
    (w_toGraph F x_1).bind fun r_5 =>
    (i_SearchNumber F r_5).bind fun r_6 =>
    bif (r_6.1 != r_4.1) then
      w_FnExactSearchNumber_j1 F x_1 r_5 true
    else
      w_FnExactSearchNumber_j1 F x_1 r_5 (r_6.2 != r_4.2)
theorem t13 (H : H13 D σ F) (x_1 : (Int × (List (Int × Int)))) (s : Nat → V) (hs : Facts [(0, (.agg [(ji x_1.1), (Enc.enc (x_1.2 : List (Int × Int)))]))] s) (h : w_FnExactSearchNumber F x_1 = some r) : Run D σ (R13 r) (.run A13 []) s := by
  unfold w_FnExactSearchNumber at h
  have h0 := hs
  refine .seq (run_reg ?_)
  refine e_clr ?_
  refine ez [(0, _), (1, _)] ⟨(keep_clear (pk := [1]) h0 rfl (map_agg (maps_cons mi (maps_cons me maps_nil)))), (gone_clear (pk := [1]) (t := 1) rfl)⟩ ?_
  rintro s ⟨h0, h1⟩
  refine g_box (.agg [(ji x_1.1), (Enc.enc (x_1.2 : List (Int × Int)))]) (rd_of h0 rfl) h1 rfl ?_
  refine g0 (jb false) fun h2 => ?_
  refine gq (.nsq (.seq (rg (g0 (ji 1048576) fun h3 => gq (.nsq (.seq (rg (g1 1 (.agg [(ji x_1.1), (Enc.enc (x_1.2 : List (Int × Int)))]) (rfl : (_ : V) = (.ref (.bx 1) 0 [] (.agg [(ji x_1.1), (Enc.enc (x_1.2 : List (Int × Int)))]))) fun h9 => ?_))))))))
  refine gm h3 fun h10 => ?_
  obtain ⟨r_2, E_r_2, h⟩ := bind_some h
  refine g_call (m := 0) (al := false) (r := (Enc.enc (r_2 : Int))) [Enc.enc (x_1 : (Int × (List (Int × Int)))), Enc.enc (1048576 : Int)] (ta_cons (v := (.agg [(ji x_1.1), (Enc.enc (x_1.2 : List (Int × Int)))])) h9 rfl (Enc.erase_enc (x_1 : (Int × (List (Int × Int))))) (ta_cons (v := (ji 1048576)) h10 rfl rfl ta_nil)) (H.c15 _ _ _ E_r_2) H.g15 rfl rfl rfl rfl ?_
  refine gm (rfl : (_ : V) = (ji r_2)) fun h3 => ?_
  refine gq (.nsq (.seq (.seq (rg (gm h3 fun h12 => g1 12 (jb (decide (r_2 < 0))) h12 fun h13 => ?_)))))
  refine gq (.nsq (run_cond (t := decide (r_2 < 0)) h13 h (fun h => ?_) (fun h => ?_)))
  · refine .seq (rg (g0 (jb true) fun h2 => ?_))
    refine gq (.nsq (.ret ?_))
    have hr := Option.some.inj h
    subst hr
    exact rrA (res_tmp h2) rfl
  refine .skip (.nsq (.seq (rg (g1 1 (.agg [(ji x_1.1), (Enc.enc (x_1.2 : List (Int × Int)))]) (rfl : (_ : V) = (.ref (.bx 1) 0 [] (.agg [(ji x_1.1), (Enc.enc (x_1.2 : List (Int × Int)))]))) fun h15 => ?_))))
  obtain ⟨r_3, E_r_3, h⟩ := bind_some h
  refine g_call (m := 0) (al := true) (r := (Enc.enc (r_3 : (Int × (List (Int × Int)))))) [Enc.enc (x_1 : (Int × (List (Int × Int))))] (ta_cons (v := (.agg [(ji x_1.1), (Enc.enc (x_1.2 : List (Int × Int)))])) h15 rfl (Enc.erase_enc (x_1 : (Int × (List (Int × Int))))) ta_nil) (H.c17 _ _ E_r_3) H.g17 (hal_of (ht_cons (v := (.agg [(ji x_1.1), (Enc.enc (x_1.2 : List (Int × Int)))])) h15 rfl rfl ht_nil)) rfl rfl rfl ?_
  obtain ⟨r_4, E_r_4, h⟩ := bind_some h
  refine g_call (m := 0) (al := false) (r := (.tup [Enc.enc (r_4.1 : Int), Enc.enc (r_4.2 : Bool)])) [Enc.enc (r_3 : (Int × (List (Int × Int))))] (ta_cons (v := (.agg [(ji r_3.1), (Enc.enc (r_3.2 : List (Int × Int)))])) rfl rfl (Enc.erase_enc (r_3 : (Int × (List (Int × Int))))) ta_nil) (H.c55 _ _ E_r_4) H.g55 rfl rfl rfl rfl ?_
  refine gm (rfl : (_ : V) = (.tup [(ji r_4.1), (jb r_4.2)])) fun h14 => ?_
  refine g1 14 (ji r_4.1) h14 fun h18 => ?_
  refine g1 14 (jb r_4.2) h14 fun h19 => ?_
  refine gm h18 fun h4 => gm h19 fun h5 => gq (.nsq (.seq (run_reg ?_)))
  refine e_clr ?_
  refine ez [(1, _), (2, _), (4, _), (5, _), (6, _)] ⟨(keep_clear (pk := [6]) rfl rfl (map_bx rfl (map_agg (maps_cons mi (maps_cons me maps_nil))))), (keep_clear (pk := [6]) h2 rfl mb), (keep_clear (pk := [6]) h4 rfl mi), (keep_clear (pk := [6]) h5 rfl mb), (gone_clear (pk := [6]) (t := 6) rfl)⟩ ?_
  rintro s ⟨h1, h2, h4, h5, h6⟩
  refine g1 1 (.agg [(ji x_1.1), (Enc.enc (x_1.2 : List (Int × Int)))]) h1 fun h20 => ?_
  obtain ⟨r_5, E_r_5, h⟩ := bind_some h
  refine g_call (m := 0) (al := true) (r := (Enc.enc (r_5 : (Int × (List (Int × Int)))))) [Enc.enc (x_1 : (Int × (List (Int × Int))))] (ta_cons (v := (.agg [(ji x_1.1), (Enc.enc (x_1.2 : List (Int × Int)))])) h20 rfl (Enc.erase_enc (x_1 : (Int × (List (Int × Int))))) ta_nil) (H.c17 _ _ E_r_5) H.g17 (hal_of (ht_cons (v := (.agg [(ji x_1.1), (Enc.enc (x_1.2 : List (Int × Int)))])) h20 rfl rfl ht_nil)) rfl rfl rfl ?_
  refine g_alloc h6 ?_
  refine g_store (.agg [(ji r_5.1), (Enc.enc (r_5.2 : List (Int × Int)))]) (rd_of rfl rfl) (rd_of rfl rfl) (by refine ⟨by decide, by decide, rfl, rfl, rfl, ?_⟩; first | rfl | simp [V.toks, V.tokss, Enc.toks_enc]) ?_
  refine gz [(1, (.ref (.bx 1) 0 [] (.agg [(ji x_1.1), (Enc.enc (x_1.2 : List (Int × Int)))]))), (2, (jb false)), (4, (ji r_4.1)), (5, (jb r_4.2)), (6, (.ref (.bx 6) 0 [] (.agg [(ji r_5.1), (Enc.enc (r_5.2 : List (Int × Int)))])))] ⟨(keep_mut h1 (mut_ref_ne rfl rfl (mut_agg (muts_cons rfl (muts_cons (Enc.mut_enc _ _ _ _ (x_1.2 : List (Int × Int))) rfl))))), (keep_mut h2 rfl), (keep_mut h4 rfl), (keep_mut h5 rfl), (keep_mut rfl rfl)⟩ ?_
  rintro s ⟨h1, h2, h4, h5, h6⟩
  refine .nsq (.seq (rg (g1 6 (.agg [(ji r_5.1), (Enc.enc (r_5.2 : List (Int × Int)))]) h6 fun h23 => ?_)))
  obtain ⟨r_6, E_r_6, h⟩ := bind_some h
  refine g_call (m := 0) (al := false) (r := (.tup [Enc.enc (r_6.1 : Int), Enc.enc (r_6.2 : Bool)])) [Enc.enc (r_5 : (Int × (List (Int × Int))))] (ta_cons (v := (.agg [(ji r_5.1), (Enc.enc (r_5.2 : List (Int × Int)))])) h23 rfl (Enc.erase_enc (r_5 : (Int × (List (Int × Int))))) ta_nil) (H.c56 _ _ E_r_6) H.g56 rfl rfl rfl rfl ?_
  refine gm (rfl : (_ : V) = (.tup [(ji r_6.1), (jb r_6.2)])) fun h22 => ?_
  refine g1 22 (ji r_6.1) h22 fun h25 => ?_
  refine g1 22 (jb r_6.2) h22 fun h26 => ?_
  refine gm h25 fun h7 => gm h26 fun h8 => gq (.nsq (.seq (.seq (rg (gm h7 fun h27 => gm h4 fun h28 => g2 27 28 (jb (r_6.1 != r_4.1)) h27 h28 fun h29 => ?_)))))
  refine gm h29 fun h30 => split_on (c := (r_6.1 != r_4.1)) h (fun hg4 h => ?_) (fun hg4 h => ?_)
  · refine g_no (h30.trans (congrArg V.bool hg4)) ?_
    refine g_no (h30.trans (congrArg V.bool hg4)) ?_
    refine g_no (h30.trans (congrArg V.bool hg4)) ?_
    refine g2 30 33 (jb true) (h30.trans (congrArg V.bool hg4)) (rfl : (_ : V) = (.tup [])) fun h34 => ?_
    refine gq ?_
    exact t_f13_j1 H x_1 r_5 true _ ⟨h1, h2, h6, h34⟩ h
  refine g_yes (h30.trans (congrArg V.bool hg4)) (gm h8 fun h31 => ?_)
  refine g_yes (h30.trans (congrArg V.bool hg4)) (gm h5 fun h32 => ?_)
  refine g_yes (h30.trans (congrArg V.bool hg4)) (g2 31 32 (jb (r_6.2 != r_4.2)) h31 h32 fun h33 => ?_)
  refine g2 30 33 (jb (r_6.2 != r_4.2)) (h30.trans (congrArg V.bool hg4)) h33 fun h34 => ?_
  refine gq ?_
  exact t_f13_j1 H x_1 r_5 (r_6.2 != r_4.2) _ ⟨h1, h2, h6, h34⟩ h
end
def e13 (F : Nat) : Ent := ent 13 (fun (x : ((Int × (List (Int × Int))) × Unit)) => w_FnExactSearchNumber F x.1) (fun (r : Bool) => (Enc.enc (r : Bool))) 0 false []
theorem p13 {F : Nat} {x0 : (Int × (List (Int × Int)))} {r : Bool} (h : w_FnExactSearchNumber F x0 = some r) : (e13 F).den [Enc.enc x0] = some (Enc.enc (r : Bool)) := ent_put (x0, ()) h
theorem o13 {D : Den} {σ : Sig} {F : Nat} (hF : Fits2 Try.prog D σ) (H : H13 D σ F) : (e13 F).Ok Try.prog := by
  refine ok_of (f := 13) (show unk 13 = 13 from rfl) (fun args r h => ?_) ⟨Try.f13, Try.func13, rfl, rfl⟩
  obtain ⟨⟨x0, _⟩, y, rfl, hy, rfl⟩ := da_open h
  exact contract_run hF (by kernel_rfl) Try.func13 rfl c13 (show 1 ≤ Try.f13.ntmps by decide) (t13 H x0 _ rfl hy)
end Go.Zq
