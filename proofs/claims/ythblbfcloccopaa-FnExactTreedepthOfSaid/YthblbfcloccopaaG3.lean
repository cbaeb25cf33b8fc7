/- Functions of the program as typed functions, and that the machine runs as they say (part 3). No further condition. -/
import Derived.Test.YthblbfcloccopaaK2
import Derived.Test.YthblbfcloccopaaProg
import Derived.Test.YthblbfcloccopaaChecked
import Derived.KernelRfl
import Derived.Test.YthblbfcloccopaaG2
set_option linter.unusedVariables false
set_option linter.unusedSimpArgs false
/- Functions of the program, as typed functions, and that the machine runs as they say. -/
namespace Go.Zq
open Go.Proofs
/- (loop.example/g01109/impl.net).treedepths -/
def A67_2 : AC := (AC.cond (O.t 15) AC.skip (AC.exit 0))
def A67_10 : AC := (AC.reg [] [(I.mk (some 30) none false (X.v (A.mov (O.t 3)))), (I.mk (some 31) none false (X.v (A.mov (O.t 4)))), (I.mk (some 32) none false (X.v (A.mov (O.t 3)))), (I.mk (some 33) none false (X.v (A.mov (O.t 4)))), (I.mk (some 34) none false (X.v (A.idx (O.t 32) (O.t 33) 1))), (I.mk (some 35) none false (X.v (A.load Sh.s (O.t 34)))), (I.mk (some 36) none false (X.v (A.mov (O.t 3)))), (I.mk (some 37) none false (X.v (A.mov (O.t 7)))), (I.mk (some 38) none false (X.v (A.idx (O.t 36) (O.t 37) 1))), (I.mk (some 39) none false (X.v (A.load Sh.s (O.t 38)))), (I.mk (some 40) none false (X.v (A.mx [(O.t 35), (O.t 39)]))), (I.mk (some 41) none false (X.v (A.idx (O.t 30) (O.t 31) 1))), (I.mk none none false (X.store Sh.s (O.t 41) (O.t 40)))] [])
def A67_11 : AC := (AC.reg [] [(I.mk (some 42) none false (X.v (A.bin BinOp.add (O.t 26) (O.k (V.int IntKind.i64 (Int.ofNat 1)))))), (I.mk (some 26) none false (X.v (A.mov (O.t 42))))] [])
def A67_9 : AC := (AC.seq (AC.block 3 (AC.seq (AC.reg [] [(I.mk (some 28) none false (X.v (A.idx (O.t 24) (O.t 26) 1))), (I.mk (some 29) none false (X.v (A.load Sh.s (O.t 28)))), (I.mk (some 7) none false (X.v (A.mov (O.t 29))))] []) A67_10)) A67_11)
def A67_8 : AC := (AC.seq (AC.cond (O.t 27) AC.skip (AC.exit 2)) A67_9)
def A67_7 : AC := (AC.seq (AC.reg [] [(I.mk (some 27) none false (X.v (A.bin BinOp.lss (O.t 26) (O.t 25))))] []) A67_8)
def A67_6 : AC := (AC.block 2 (AC.loop A67_7))
def A67_5 : AC := (AC.cond (O.t 23) (AC.seq (AC.seq (AC.reg [] [(I.mk (some 24) none false (X.v (A.mov (O.t 5)))), (I.mk (some 25) none false (X.v (A.len (O.t 24)))), (I.mk (some 26) none false (X.v (A.mov (O.k (V.int IntKind.i64 (Int.ofNat 0))))))] []) A67_6) (AC.exit 1)) AC.skip)
def A67_12 : AC := (AC.reg [] [(I.mk (some 43) none false (X.v (A.mov (O.t 3)))), (I.mk (some 44) none false (X.v (A.mov (O.t 4)))), (I.mk (some 45) none false (X.v (A.mov (O.t 3)))), (I.mk (some 46) none false (X.v (A.mov (O.t 4)))), (I.mk (some 47) none false (X.v (A.load (Sh.ag [Sh.p]) (O.t 1)))), (I.mk (some 48) none false (X.v (A.mov (O.t 3)))), (I.mk (some 49) none false (X.v (A.mov (O.t 4)))), (I.mk (some 50) none false (X.call (O.k (V.fn 113 [] [])) [(O.t 47), (O.t 48), (O.t 49)])), (I.mk (some 51) none false (X.v (A.bin BinOp.shl (O.k (V.int IntKind.i64 (Int.ofNat 1))) (O.t 50)))), (I.mk (some 52) none false (X.v (A.bin BinOp.andNot (O.t 46) (O.t 51)))), (I.mk (some 53) none false (X.v (A.idx (O.t 45) (O.t 52) 1))), (I.mk (some 54) none false (X.v (A.load Sh.s (O.t 53)))), (I.mk (some 55) none false (X.v (A.bin BinOp.add (O.t 54) (O.k (V.int IntKind.i64 (Int.ofNat 1)))))), (I.mk (some 56) none false (X.v (A.idx (O.t 43) (O.t 44) 1))), (I.mk none none false (X.store Sh.s (O.t 56) (O.t 55)))] [])
def A67_4 : AC := (AC.seq (AC.seq (AC.reg [] [(I.mk (some 21) none false (X.v (A.mov (O.t 5)))), (I.mk (some 22) none false (X.v (A.len (O.t 21)))), (I.mk (some 23) none false (X.v (A.bin BinOp.gtr (O.t 22) (O.k (V.int IntKind.i64 (Int.ofNat 1))))))] []) A67_5) A67_12)
def A67_13 : AC := (AC.reg [] [(I.mk (some 16) none false (X.v (A.mov (O.t 4)))), (I.mk (some 17) none false (X.v (A.bin BinOp.add (O.t 16) (O.k (V.int IntKind.i64 (Int.ofNat 1)))))), (I.mk (some 4) none false (X.v (A.mov (O.t 17))))] [])
def A67_3 : AC := (AC.seq (AC.block 1 (AC.seq (AC.reg [] [(I.mk (some 18) none false (X.v (A.load (Sh.ag [Sh.p]) (O.t 1)))), (I.mk (some 19) none false (X.v (A.mov (O.t 4)))), (I.mk (some 20) none false (X.call (O.k (V.fn 76 [] [])) [(O.t 18), (O.t 19)])), (I.mk (some 5) none false (X.v (A.mov (O.t 20))))] []) A67_4)) A67_13)
def A67_1 : AC := (AC.seq (AC.seq (AC.reg [] [(I.mk (some 12) none false (X.v (A.mov (O.t 4)))), (I.mk (some 13) none false (X.v (A.mov (O.t 3)))), (I.mk (some 14) none false (X.v (A.len (O.t 13)))), (I.mk (some 15) none false (X.v (A.bin BinOp.lss (O.t 12) (O.t 14))))] []) A67_2) A67_3)
def A67_14 : AC := (AC.seq (AC.reg [] [(I.mk (some 57) none false (X.v (A.mov (O.t 3)))), (I.mk (some 2) none false (X.v (A.mov (O.t 57))))] [.home 3 2]) AC.ret)
def A67_17 : AC := (AC.block 0 (AC.loop A67_1))
def A67_16 : AC := (AC.seq (AC.seq (AC.reg [] [(I.mk (some 4) none false (X.v (A.mov (O.k (V.int IntKind.i64 (Int.ofNat 1))))))] []) A67_17) A67_14)
def A67_15 : AC := (AC.seq (AC.reg [.clr [11]] [(I.mk (some 8) none false (X.v (A.load (Sh.ag [Sh.p]) (O.t 1)))), (I.mk (some 9) none false (X.call (O.k (V.fn 68 [] [])) [(O.t 8)])), (I.mk (some 10) none false (X.v (A.bin BinOp.add (O.t 9) (O.k (V.int IntKind.i64 (Int.ofNat 1)))))), (I.mk (some 11) none false (X.mk (O.t 10) (V.int IntKind.i64 (Int.ofNat 0)))), (I.mk (some 3) none false (X.v (A.mov (O.t 11))))] [.home 11 3]) A67_16)
def A67 : AC := (AC.seq (AC.reg [.clr [1]] [(I.mk (some 1) none false (X.box (O.t 0))), (I.mk (some 2) none false (X.v (A.mov (O.k (V.sl Tok.nl Sh.s 0 [])))))] []) A67_15)
def an67 : List An := [{ id := 0, pre := [.clr [1]], ep := [], lin := [], sp := [] }, { id := 1, pre := [.clr [11]], ep := [.home 11 3], lin := [], sp := [] }, { id := 13, pre := [], ep := [.home 3 2], lin := [], sp := [] }]
theorem c67 : cC Try.prog Try.f67.ntmps an67 (Try.f67.body.getD .skip) = some A67 := by kernel_rfl
structure H67 (D : Den) (σ : Sig) (F : Nat) : Prop where
  c68 : ∀ x0 r, i_net_all F x0 = some r → D 68 [Enc.enc x0] = some (Enc.enc (r : Int))
  g68 : σ 68 = some (0, false)
  c76 : ∀ x0 x1 r, i_net_parts F x0 x1 = some r → D 76 [Enc.enc x0, Enc.enc x1] = some (Enc.enc (r : (List Int)))
  g76 : σ 76 = some (0, true)
  c113 : ∀ x0 x1 x2 r, i_net_bestRoot F x0 x1 x2 = some r → D 113 [Enc.enc x0, Enc.enc x1, Enc.enc x2] = some (Enc.enc (r : Int))
  g113 : σ 113 = some (0, false)
abbrev R67 (r : (List Int)) : (Nat → V) → Prop := RR Try.prog [.tmp 2] 0 true (Enc.enc (r : (List Int)))
section
variable {D : Den} {σ : Sig} {F : Nat} {r : (List Int)}
def i_net_treedepths_l1 (F : Nat) (w_1 : (S1 (List Int))) (set_38 : Int) (r_72 : (List Int)) (c1 : (List Int) → Int → Option (List Int)) : Nat → (List Int) → Int → Option (List Int)
  | 0, _, _ => none
  | k + 1, depths_91, t26_92 =>
    bif decide (t26_92 < (r_72.length : Int)) then
      (idx r_72 t26_92).bind fun e_97 =>
      (idx depths_91 set_38).bind fun e_98 =>
      (idx depths_91 e_97).bind fun e_99 =>
      (idx depths_91 set_38).bind fun e_100 =>
      (i_net_treedepths_l1 F w_1 set_38 r_72 c1 k) (depths_91.set set_38.toNat (if e_99 > e_98 then e_99 else e_98)) (w64 (t26_92 + 1))
    else
      c1 depths_91 (w64 (set_38 + 1))
theorem t_f67_l1 (H : H67 D σ F) (w_1 : (S1 (List Int))) (set_38 : Int) (r_72 : (List Int)) (c1 : (List Int) → Int → Option (List Int)) (Hc1 : ∀ (depths_37 : (List Int)) (set_38 : Int) (s : Nat → V), Facts [(1, (.ref (.bx 1) 0 [] (.agg [(Enc.enc (w_1.a : List Int))]))), (2, (.sl .nl (Enc.shp Int) 0 [])), (3, (encO (.at 3 []) (.of (depths_37 : List Int)))), (4, (.int .i64 set_38))] s → c1 depths_37 set_38 = some r → Run D σ (R67 r) (.run A67_1 [.lp A67_1, .bk 0, .sq A67_14]) s) : ∀ (k : Nat) (depths_91 : (List Int)) (t26_92 : Int) (s : Nat → V), Facts [(1, (.ref (.bx 1) 0 [] (.agg [(Enc.enc (w_1.a : List Int))]))), (2, (.sl .nl (Enc.shp Int) 0 [])), (3, (encO (.at 3 []) (.of (depths_91 : List Int)))), (4, (.int .i64 set_38)), (24, (Enc.enc (r_72 : List Int))), (25, (.int .i64 (r_72.length : Int))), (26, (.int .i64 t26_92))] s → i_net_treedepths_l1 F w_1 set_38 r_72 c1 k depths_91 t26_92 = some r → Run D σ (R67 r) (.run A67_7 [.lp A67_7, .bk 2, .sq (AC.exit 1), .sq A67_12, .bk 1, .sq A67_13, .lp A67_1, .bk 0, .sq A67_14]) s := by
  intro k
  induction k with
  | zero => intro depths_91 t26_92 s _ h; exact nomatch (h : (none : Option _) = some r)
  | succ k ih =>
    intro depths_91 t26_92 s hs h
    rw [i_net_treedepths_l1] at h
    obtain ⟨h1, h2, h3, h4, h24, h25, h26⟩ := hs
    refine .seq ?_
    refine run_reg ?_
    refine e_end ?_
    refine g_v2 (t1 := 26) (t2 := 25) (u1 := (.int .i64 t26_92)) (u2 := (.int .i64 (r_72.length : Int))) (.bool (decide (t26_92 < (r_72.length : Int)))) h26 h25 rfl rfl ?_
    refine g_end ?_
    refine e_end ?_
    refine renew [(1, (.ref (.bx 1) 0 [] (.agg [(Enc.enc (w_1.a : List Int))]))), (2, (.sl .nl (Enc.shp Int) 0 [])), (3, (encO (.at 3 []) (.of (depths_91 : List Int)))), (4, (.int .i64 set_38)), (24, (Enc.enc (r_72 : List Int))), (25, (.int .i64 (r_72.length : Int))), (26, (.int .i64 t26_92)), (27, (.bool (decide (t26_92 < (r_72.length : Int)))))] ⟨h1, h2, h3, h4, h24, h25, h26, rfl⟩ ?_
    rintro s ⟨h1, h2, h3, h4, h24, h25, h26, h27⟩
    refine .nsq ?_
    refine .seq ?_
    refine run_cond (t := decide (t26_92 < (r_72.length : Int))) h27 h (fun h => ?_) (fun h => ?_)
    · refine .skip ?_
      refine .nsq ?_
      refine .seq ?_
      refine .block ?_
      refine .seq ?_
      refine run_reg ?_
      refine e_end ?_
      obtain ⟨e_97, E_e_97, h⟩ := bind_some h
      refine g_v (.ref .sh 0 [] (.int .i64 e_97)) (ev_idx (t := .sh) (lo := 0) (xs := r_72) h24 h26 E_e_97 rfl rfl) ?_
      refine g_v1 (t := 28) (u := (.ref .sh 0 [] (.int .i64 e_97))) (.int .i64 e_97) rfl rfl rfl ?_
      refine g_v1 (t := 29) (u := (.int .i64 e_97)) (.int .i64 e_97) rfl rfl rfl ?_
      refine g_end ?_
      refine e_end ?_
      refine renew [(1, (.ref (.bx 1) 0 [] (.agg [(Enc.enc (w_1.a : List Int))]))), (2, (.sl .nl (Enc.shp Int) 0 [])), (3, (encO (.at 3 []) (.of (depths_91 : List Int)))), (4, (.int .i64 set_38)), (7, (.int .i64 e_97)), (24, (Enc.enc (r_72 : List Int))), (25, (.int .i64 (r_72.length : Int))), (26, (.int .i64 t26_92))] ⟨h1, h2, h3, h4, rfl, h24, h25, h26⟩ ?_
      rintro s ⟨h1, h2, h3, h4, h7, h24, h25, h26⟩
      refine .nsq ?_
      refine run_reg ?_
      refine e_end ?_
      refine g_v1 (t := 3) (u := (encO (.at 3 []) (.of (depths_91 : List Int)))) (encO (.at 3 []) (.of (depths_91 : List Int))) h3 rfl rfl ?_
      refine g_v1 (t := 4) (u := (.int .i64 set_38)) (.int .i64 set_38) h4 rfl rfl ?_
      refine g_v1 (t := 3) (u := (encO (.at 3 []) (.of (depths_91 : List Int)))) (encO (.at 3 []) (.of (depths_91 : List Int))) h3 rfl rfl ?_
      refine g_v1 (t := 4) (u := (.int .i64 set_38)) (.int .i64 set_38) h4 rfl rfl ?_
      obtain ⟨e_98, E_e_98, h⟩ := bind_some h
      refine g_v (.ref (.at 3 []) set_38.toNat [] (.int .i64 e_98)) (ev_idxO (o := (.of depths_91)) rfl rfl E_e_98 rfl) ?_
      refine g_v1 (t := 34) (u := (.ref (.at 3 []) set_38.toNat [] (.int .i64 e_98))) (.int .i64 e_98) rfl rfl rfl ?_
      refine g_v1 (t := 3) (u := (encO (.at 3 []) (.of (depths_91 : List Int)))) (encO (.at 3 []) (.of (depths_91 : List Int))) h3 rfl rfl ?_
      refine g_v1 (t := 7) (u := (.int .i64 e_97)) (.int .i64 e_97) h7 rfl rfl ?_
      obtain ⟨e_99, E_e_99, h⟩ := bind_some h
      refine g_v (.ref (.at 3 []) e_97.toNat [] (.int .i64 e_99)) (ev_idxO (o := (.of depths_91)) rfl rfl E_e_99 rfl) ?_
      refine g_v1 (t := 38) (u := (.ref (.at 3 []) e_97.toNat [] (.int .i64 e_99))) (.int .i64 e_99) rfl rfl rfl ?_
      refine g_v2 (t1 := 35) (t2 := 39) (u1 := (.int .i64 e_98)) (u2 := (.int .i64 e_99)) (.int .i64 (if e_99 > e_98 then e_99 else e_98)) rfl rfl rfl rfl ?_
      obtain ⟨e_100, E_e_100, h⟩ := bind_some h
      refine g_v (.ref (.at 3 []) set_38.toNat [] (.int .i64 e_100)) (ev_idxO (o := (.of depths_91)) rfl rfl E_e_100 rfl) ?_
      refine g_store (.int .i64 (if e_99 > e_98 then e_99 else e_98)) (rd_of rfl rfl) (rd_of rfl rfl) (by refine ⟨by decide, by decide, rfl, rfl, rfl, ?_⟩; first | rfl | simp [V.toks, V.tokss, Enc.toks_enc]) ?_
      refine g_end ?_
      refine e_end ?_
      refine renew [(1, (.ref (.bx 1) 0 [] (.agg [(Enc.enc (w_1.a : List Int))]))), (2, (.sl .nl (Enc.shp Int) 0 [])), (3, (encO (.at 3 []) (.of (depths_91.set set_38.toNat (if e_99 > e_98 then e_99 else e_98) : List Int)))), (4, (.int .i64 set_38)), (24, (Enc.enc (r_72 : List Int))), (25, (.int .i64 (r_72.length : Int))), (26, (.int .i64 t26_92))] ⟨(keep_mut h1 (mut_ref_ne rfl rfl (mut_agg (muts_cons (Enc.mut_enc _ _ _ _ (w_1.a : List Int)) rfl)))), (keep_mut h2 rfl), (keep_mut h3 mut_own), (keep_mut h4 rfl), (keep_mut h24 (Enc.mut_enc _ _ _ _ (r_72 : List Int))), (keep_mut h25 rfl), (keep_mut h26 rfl)⟩ ?_
      rintro s ⟨h1, h2, h3, h4, h24, h25, h26⟩
      refine .nbk ?_
      refine .nsq ?_
      refine run_reg ?_
      refine e_end ?_
      refine g_v1 (t := 26) (u := (.int .i64 t26_92)) (.int .i64 (w64 (t26_92 + 1))) h26 rfl rfl ?_
      refine g_v1 (t := 42) (u := (.int .i64 (w64 (t26_92 + 1)))) (.int .i64 (w64 (t26_92 + 1))) rfl rfl rfl ?_
      refine g_end ?_
      refine e_end ?_
      refine renew [(1, (.ref (.bx 1) 0 [] (.agg [(Enc.enc (w_1.a : List Int))]))), (2, (.sl .nl (Enc.shp Int) 0 [])), (3, (encO (.at 3 []) (.of (depths_91.set set_38.toNat (if e_99 > e_98 then e_99 else e_98) : List Int)))), (4, (.int .i64 set_38)), (24, (Enc.enc (r_72 : List Int))), (25, (.int .i64 (r_72.length : Int))), (26, (.int .i64 (w64 (t26_92 + 1))))] ⟨h1, h2, h3, h4, h24, h25, rfl⟩ ?_
      rintro s ⟨h1, h2, h3, h4, h24, h25, h26⟩
      refine .nlp ?_
      exact ih (depths_91.set set_38.toNat (if e_99 > e_98 then e_99 else e_98)) (w64 (t26_92 + 1)) _ ⟨h1, h2, h3, h4, h24, h25, h26⟩ h
    · refine .exit ?_
      refine .esq ?_
      refine .elp ?_
      refine .ebk ?_
      refine .nsq ?_
      refine .exit ?_
      refine .esq ?_
      refine .ebk ?_
      refine .nsq ?_
      refine run_reg ?_
      refine e_end ?_
      refine g_v1 (t := 4) (u := (.int .i64 set_38)) (.int .i64 set_38) h4 rfl rfl ?_
      refine g_v1 (t := 16) (u := (.int .i64 set_38)) (.int .i64 (w64 (set_38 + 1))) rfl rfl rfl ?_
      refine g_v1 (t := 17) (u := (.int .i64 (w64 (set_38 + 1)))) (.int .i64 (w64 (set_38 + 1))) rfl rfl rfl ?_
      refine g_end ?_
      refine e_end ?_
      refine renew [(1, (.ref (.bx 1) 0 [] (.agg [(Enc.enc (w_1.a : List Int))]))), (2, (.sl .nl (Enc.shp Int) 0 [])), (3, (encO (.at 3 []) (.of (depths_91 : List Int)))), (4, (.int .i64 (w64 (set_38 + 1))))] ⟨h1, h2, h3, rfl⟩ ?_
      rintro s ⟨h1, h2, h3, h4⟩
      refine .nlp ?_
      exact Hc1 depths_91 (w64 (set_38 + 1)) _ ⟨h1, h2, h3, h4⟩ h
def i_net_treedepths_l2 (F : Nat) (w_1 : (S1 (List Int)))  : Nat → (List Int) → Int → Option (List Int)
  | 0, _, _ => none
  | k + 1, depths_37, set_38 =>
    bif decide (set_38 < (depths_37.length : Int)) then
      (i_net_parts F w_1 set_38).bind fun r_72 =>
      bif decide ((r_72.length : Int) > 1) then
        i_net_treedepths_l1 F w_1 set_38 r_72 (i_net_treedepths_l2 F w_1 k) F depths_37 0
      else
        (i_net_bestRoot F w_1 depths_37 set_38).bind fun r_101 =>
        (shlI .i64 1 r_101).bind fun q_102 =>
        (idx depths_37 (iandNot .i64 set_38 q_102)).bind fun e_103 =>
        (idx depths_37 set_38).bind fun e_104 =>
        (i_net_treedepths_l2 F w_1 k) (depths_37.set set_38.toNat (w64 (e_103 + 1))) (w64 (set_38 + 1))
    else
      some depths_37
theorem t_f67_l2 (H : H67 D σ F) (w_1 : (S1 (List Int)))  : ∀ (k : Nat) (depths_37 : (List Int)) (set_38 : Int) (s : Nat → V), Facts [(1, (.ref (.bx 1) 0 [] (.agg [(Enc.enc (w_1.a : List Int))]))), (2, (.sl .nl (Enc.shp Int) 0 [])), (3, (encO (.at 3 []) (.of (depths_37 : List Int)))), (4, (.int .i64 set_38))] s → i_net_treedepths_l2 F w_1 k depths_37 set_38 = some r → Run D σ (R67 r) (.run A67_1 [.lp A67_1, .bk 0, .sq A67_14]) s := by
  intro k
  induction k with
  | zero => intro depths_37 set_38 s _ h; exact nomatch (h : (none : Option _) = some r)
  | succ k ih =>
    intro depths_37 set_38 s hs h
    rw [i_net_treedepths_l2] at h
    obtain ⟨h1, h2, h3, h4⟩ := hs
    refine .seq ?_
    refine .seq ?_
    refine run_reg ?_
    refine e_end ?_
    refine g_v1 (t := 4) (u := (.int .i64 set_38)) (.int .i64 set_38) h4 rfl rfl ?_
    refine g_v1 (t := 3) (u := (encO (.at 3 []) (.of (depths_37 : List Int)))) (encO (.at 3 []) (.of (depths_37 : List Int))) h3 rfl rfl ?_
    refine g_v (.int .i64 (depths_37.length : Int)) (ev_lenO (o := .of depths_37) rfl) ?_
    refine g_v2 (t1 := 12) (t2 := 14) (u1 := (.int .i64 set_38)) (u2 := (.int .i64 (depths_37.length : Int))) (.bool (decide (set_38 < (depths_37.length : Int)))) rfl rfl rfl rfl ?_
    refine g_end ?_
    refine e_end ?_
    refine renew [(1, (.ref (.bx 1) 0 [] (.agg [(Enc.enc (w_1.a : List Int))]))), (2, (.sl .nl (Enc.shp Int) 0 [])), (3, (encO (.at 3 []) (.of (depths_37 : List Int)))), (4, (.int .i64 set_38)), (15, (.bool (decide (set_38 < (depths_37.length : Int)))))] ⟨h1, h2, h3, h4, rfl⟩ ?_
    rintro s ⟨h1, h2, h3, h4, h15⟩
    refine .nsq ?_
    refine run_cond (t := decide (set_38 < (depths_37.length : Int))) h15 h (fun h => ?_) (fun h => ?_)
    · refine .skip ?_
      refine .nsq ?_
      refine .seq ?_
      refine .block ?_
      refine .seq ?_
      refine run_reg ?_
      refine e_end ?_
      refine g_v1 (t := 1) (u := (.ref (.bx 1) 0 [] (.agg [(Enc.enc (w_1.a : List Int))]))) (.agg [(Enc.enc (w_1.a : List Int))]) h1 rfl rfl ?_
      refine g_v1 (t := 4) (u := (.int .i64 set_38)) (.int .i64 set_38) h4 rfl rfl ?_
      obtain ⟨r_72, E_r_72, h⟩ := bind_some h
      refine g_call (m := 0) (al := true) (r := (Enc.enc (r_72 : (List Int)))) [Enc.enc (w_1 : (S1 (List Int))), Enc.enc (set_38 : Int)] (ta_cons (v := (.agg [(Enc.enc (w_1.a : List Int))])) rfl rfl (Enc.erase_enc (w_1 : (S1 (List Int)))) (ta_cons (v := (.int .i64 set_38)) rfl rfl rfl ta_nil)) (H.c76 _ _ _ E_r_72) H.g76 (hal_of (ht_cons (v := (.agg [(Enc.enc (w_1.a : List Int))])) rfl rfl rfl (ht_cons (v := (.int .i64 set_38)) rfl rfl rfl ht_nil))) rfl rfl rfl ?_
      refine g_v1 (t := 20) (u := (Enc.enc (r_72 : List Int))) (Enc.enc (r_72 : List Int)) rfl rfl rfl ?_
      refine g_end ?_
      refine e_end ?_
      refine renew [(1, (.ref (.bx 1) 0 [] (.agg [(Enc.enc (w_1.a : List Int))]))), (2, (.sl .nl (Enc.shp Int) 0 [])), (3, (encO (.at 3 []) (.of (depths_37 : List Int)))), (4, (.int .i64 set_38)), (5, (Enc.enc (r_72 : List Int)))] ⟨h1, h2, h3, h4, rfl⟩ ?_
      rintro s ⟨h1, h2, h3, h4, h5⟩
      refine .nsq ?_
      refine .seq ?_
      refine .seq ?_
      refine run_reg ?_
      refine e_end ?_
      refine g_v1 (t := 5) (u := (Enc.enc (r_72 : List Int))) (Enc.enc (r_72 : List Int)) h5 rfl rfl ?_
      refine g_v (.int .i64 (r_72.length : Int)) (ev_len (xs := r_72) rfl) ?_
      refine g_v1 (t := 22) (u := (.int .i64 (r_72.length : Int))) (.bool (decide ((r_72.length : Int) > 1))) rfl rfl rfl ?_
      refine g_end ?_
      refine e_end ?_
      refine renew [(1, (.ref (.bx 1) 0 [] (.agg [(Enc.enc (w_1.a : List Int))]))), (2, (.sl .nl (Enc.shp Int) 0 [])), (3, (encO (.at 3 []) (.of (depths_37 : List Int)))), (4, (.int .i64 set_38)), (5, (Enc.enc (r_72 : List Int))), (23, (.bool (decide ((r_72.length : Int) > 1))))] ⟨h1, h2, h3, h4, h5, rfl⟩ ?_
      rintro s ⟨h1, h2, h3, h4, h5, h23⟩
      refine .nsq ?_
      refine run_cond (t := decide ((r_72.length : Int) > 1)) h23 h (fun h => ?_) (fun h => ?_)
      · refine .seq ?_
        refine .seq ?_
        refine run_reg ?_
        refine e_end ?_
        refine g_v1 (t := 5) (u := (Enc.enc (r_72 : List Int))) (Enc.enc (r_72 : List Int)) h5 rfl rfl ?_
        refine g_v (.int .i64 (r_72.length : Int)) (ev_len (xs := r_72) rfl) ?_
        refine g_v0 (.int .i64 0) rfl rfl ?_
        refine g_end ?_
        refine e_end ?_
        refine renew [(1, (.ref (.bx 1) 0 [] (.agg [(Enc.enc (w_1.a : List Int))]))), (2, (.sl .nl (Enc.shp Int) 0 [])), (3, (encO (.at 3 []) (.of (depths_37 : List Int)))), (4, (.int .i64 set_38)), (24, (Enc.enc (r_72 : List Int))), (25, (.int .i64 (r_72.length : Int))), (26, (.int .i64 0))] ⟨h1, h2, h3, h4, rfl, rfl, rfl⟩ ?_
        rintro s ⟨h1, h2, h3, h4, h24, h25, h26⟩
        refine .nsq ?_
        refine .block ?_
        refine .loop ?_
        exact t_f67_l1 H w_1 set_38 r_72 (i_net_treedepths_l2 F w_1 k) ih F depths_37 0 _ ⟨h1, h2, h3, h4, h24, h25, h26⟩ h
      · refine .skip ?_
        refine .nsq ?_
        refine run_reg ?_
        refine e_end ?_
        refine g_v1 (t := 3) (u := (encO (.at 3 []) (.of (depths_37 : List Int)))) (encO (.at 3 []) (.of (depths_37 : List Int))) h3 rfl rfl ?_
        refine g_v1 (t := 4) (u := (.int .i64 set_38)) (.int .i64 set_38) h4 rfl rfl ?_
        refine g_v1 (t := 3) (u := (encO (.at 3 []) (.of (depths_37 : List Int)))) (encO (.at 3 []) (.of (depths_37 : List Int))) h3 rfl rfl ?_
        refine g_v1 (t := 4) (u := (.int .i64 set_38)) (.int .i64 set_38) h4 rfl rfl ?_
        refine g_v1 (t := 1) (u := (.ref (.bx 1) 0 [] (.agg [(Enc.enc (w_1.a : List Int))]))) (.agg [(Enc.enc (w_1.a : List Int))]) h1 rfl rfl ?_
        refine g_v1 (t := 3) (u := (encO (.at 3 []) (.of (depths_37 : List Int)))) (encO (.at 3 []) (.of (depths_37 : List Int))) h3 rfl rfl ?_
        refine g_v1 (t := 4) (u := (.int .i64 set_38)) (.int .i64 set_38) h4 rfl rfl ?_
        obtain ⟨r_101, E_r_101, h⟩ := bind_some h
        refine g_call (m := 0) (al := false) (r := (Enc.enc (r_101 : Int))) [Enc.enc (w_1 : (S1 (List Int))), Enc.enc (depths_37 : (List Int)), Enc.enc (set_38 : Int)] (ta_cons (v := (.agg [(Enc.enc (w_1.a : List Int))])) rfl rfl (Enc.erase_enc (w_1 : (S1 (List Int)))) (ta_cons (v := (encO (.at 3 []) (.of (depths_37 : List Int)))) rfl rfl (erase_encO (o := .of depths_37)) (ta_cons (v := (.int .i64 set_38)) rfl rfl rfl ta_nil))) (H.c113 _ _ _ _ E_r_101) H.g113 rfl rfl rfl rfl ?_
        obtain ⟨q_102, E_q_102, h⟩ := bind_some h
        refine g_v (.int .i64 q_102) (ev_shl rfl rfl E_q_102) ?_
        refine g_v2 (t1 := 46) (t2 := 51) (u1 := (.int .i64 set_38)) (u2 := (.int .i64 q_102)) (.int .i64 (iandNot .i64 set_38 q_102)) rfl rfl rfl rfl ?_
        obtain ⟨e_103, E_e_103, h⟩ := bind_some h
        refine g_v (.ref (.at 3 []) ((iandNot .i64 set_38 q_102).toNat) [] (.int .i64 e_103)) (ev_idxO (o := (.of depths_37)) rfl rfl E_e_103 rfl) ?_
        refine g_v1 (t := 53) (u := (.ref (.at 3 []) ((iandNot .i64 set_38 q_102).toNat) [] (.int .i64 e_103))) (.int .i64 e_103) rfl rfl rfl ?_
        refine g_v1 (t := 54) (u := (.int .i64 e_103)) (.int .i64 (w64 (e_103 + 1))) rfl rfl rfl ?_
        obtain ⟨e_104, E_e_104, h⟩ := bind_some h
        refine g_v (.ref (.at 3 []) set_38.toNat [] (.int .i64 e_104)) (ev_idxO (o := (.of depths_37)) rfl rfl E_e_104 rfl) ?_
        refine g_store (.int .i64 (w64 (e_103 + 1))) (rd_of rfl rfl) (rd_of rfl rfl) (by refine ⟨by decide, by decide, rfl, rfl, rfl, ?_⟩; first | rfl | simp [V.toks, V.tokss, Enc.toks_enc]) ?_
        refine g_end ?_
        refine e_end ?_
        refine renew [(1, (.ref (.bx 1) 0 [] (.agg [(Enc.enc (w_1.a : List Int))]))), (2, (.sl .nl (Enc.shp Int) 0 [])), (3, (encO (.at 3 []) (.of (depths_37.set set_38.toNat (w64 (e_103 + 1)) : List Int)))), (4, (.int .i64 set_38))] ⟨(keep_mut h1 (mut_ref_ne rfl rfl (mut_agg (muts_cons (Enc.mut_enc _ _ _ _ (w_1.a : List Int)) rfl)))), (keep_mut h2 rfl), (keep_mut h3 mut_own), (keep_mut h4 rfl)⟩ ?_
        rintro s ⟨h1, h2, h3, h4⟩
        refine .nbk ?_
        refine .nsq ?_
        refine run_reg ?_
        refine e_end ?_
        refine g_v1 (t := 4) (u := (.int .i64 set_38)) (.int .i64 set_38) h4 rfl rfl ?_
        refine g_v1 (t := 16) (u := (.int .i64 set_38)) (.int .i64 (w64 (set_38 + 1))) rfl rfl rfl ?_
        refine g_v1 (t := 17) (u := (.int .i64 (w64 (set_38 + 1)))) (.int .i64 (w64 (set_38 + 1))) rfl rfl rfl ?_
        refine g_end ?_
        refine e_end ?_
        refine renew [(1, (.ref (.bx 1) 0 [] (.agg [(Enc.enc (w_1.a : List Int))]))), (2, (.sl .nl (Enc.shp Int) 0 [])), (3, (encO (.at 3 []) (.of (depths_37.set set_38.toNat (w64 (e_103 + 1)) : List Int)))), (4, (.int .i64 (w64 (set_38 + 1))))] ⟨h1, h2, h3, rfl⟩ ?_
        rintro s ⟨h1, h2, h3, h4⟩
        refine .nlp ?_
        exact ih (depths_37.set set_38.toNat (w64 (e_103 + 1))) (w64 (set_38 + 1)) _ ⟨h1, h2, h3, h4⟩ h
    · refine .exit ?_
      refine .esq ?_
      refine .elp ?_
      refine .ebk ?_
      refine .nsq ?_
      refine .seq ?_
      refine run_reg ?_
      refine e_end ?_
      refine g_v1 (t := 3) (u := (encO (.at 3 []) (.of (depths_37 : List Int)))) (encO (.at 3 []) (.of (depths_37 : List Int))) h3 rfl rfl ?_
      refine g_v1 (t := 57) (u := (encO (.at 3 []) (.of (depths_37 : List Int)))) (encO (.at 3 []) (.of (depths_37 : List Int))) rfl rfl rfl ?_
      refine g_end ?_
      refine e_home (r := 3) (x := 2) (v := (encO (.at 3 []) (.of (depths_37 : List Int)))) (by exact rfl) rfl (fun s_4 hg_4 => ?_)
      refine e_end ?_
      refine renew [(2, (encO (.at 2 []) (.of (depths_37 : List Int))))] (hg_4 2 (encO (.at 3 []) (.of (depths_37 : List Int))) (encO (.at 2 []) (.of (depths_37 : List Int))) rfl (map_encO (r := 3) (p := []) rfl rfl)) ?_
      rintro s h2
      refine .nsq ?_
      refine .ret ?_
      have hr := Option.some.inj h
      subst hr
      exact rrA (res_tmp h2) (fin_ret1 (fin_own (o := .of depths_37)))
def i_net_treedepths (F : Nat) (w_1 : (S1 (List Int))) : Option (List Int) :=
  (i_net_all F w_1).bind fun r_2 =>
  (mkN (w64 (r_2 + 1)) 0).bind fun mk_3 =>
  i_net_treedepths_l2 F w_1 F mk_3 1
theorem t67 (H : H67 D σ F) (w_1 : (S1 (List Int))) (s : Nat → V) (hs : Facts [(0, (.agg [(Enc.enc (w_1.a : List Int))]))] s) (h : i_net_treedepths F w_1 = some r) : Run D σ (R67 r) (.run A67 []) s := by
  unfold i_net_treedepths at h
  have h0 := hs
  refine .seq ?_
  refine run_reg ?_
  refine e_clr ?_
  refine e_end ?_
  refine g_box (.agg [(Enc.enc (w_1.a : List Int))]) (rd_of (keep_clear (s := s) (pk := [1]) h0 rfl (map_agg (maps_cons (Enc.map_enc _ (w_1.a : List Int)) maps_nil))) rfl) (gone_clear (s := s) (pk := [1]) (t := 1) rfl) rfl ?_
  refine g_v0 (.sl .nl (Enc.shp Int) 0 []) rfl rfl ?_
  refine g_end ?_
  refine e_end ?_
  refine renew [(1, (.ref (.bx 1) 0 [] (.agg [(Enc.enc (w_1.a : List Int))]))), (2, (.sl .nl (Enc.shp Int) 0 []))] ⟨rfl, rfl⟩ ?_
  rintro s ⟨h1, h2⟩
  refine .nsq ?_
  refine .seq ?_
  refine run_reg ?_
  refine e_clr ?_
  refine e_end ?_
  refine g_v1 (t := 1) (u := (.ref (.bx 1) 0 [] (.agg [(Enc.enc (w_1.a : List Int))]))) (.agg [(Enc.enc (w_1.a : List Int))]) (keep_clear (s := s) (pk := [11]) h1 rfl (map_bx rfl (map_agg (maps_cons (Enc.map_enc _ (w_1.a : List Int)) maps_nil)))) rfl rfl ?_
  obtain ⟨r_2, E_r_2, h⟩ := bind_some h
  refine g_call (m := 0) (al := false) (r := (Enc.enc (r_2 : Int))) [Enc.enc (w_1 : (S1 (List Int)))] (ta_cons (v := (.agg [(Enc.enc (w_1.a : List Int))])) rfl rfl (Enc.erase_enc (w_1 : (S1 (List Int)))) ta_nil) (H.c68 _ _ E_r_2) H.g68 rfl rfl rfl rfl ?_
  refine g_v1 (t := 9) (u := (.int .i64 r_2)) (.int .i64 (w64 (r_2 + 1))) rfl rfl rfl ?_
  obtain ⟨mk_3, E_mk_3, h⟩ := bind_some h
  refine g_mk (0 : Int) rfl rfl (gone_clear (s := s) (pk := [11]) (t := 11) rfl) E_mk_3 ?_
  refine g_v1 (t := 11) (u := (encO (.at 11 []) (.of (mk_3 : List Int)))) (encO (.at 11 []) (.of (mk_3 : List Int))) rfl rfl rfl ?_
  refine g_end ?_
  refine e_home (r := 11) (x := 3) (v := (encO (.at 11 []) (.of (mk_3 : List Int)))) (by exact rfl) rfl (fun s_3 hg_3 => ?_)
  refine e_end ?_
  refine renew [(1, (.ref (.bx 1) 0 [] (.agg [(Enc.enc (w_1.a : List Int))]))), (2, (.sl .nl (Enc.shp Int) 0 [])), (3, (encO (.at 3 []) (.of (mk_3 : List Int))))] ⟨(hg_3 1 (.ref (.bx 1) 0 [] (.agg [(Enc.enc (w_1.a : List Int))])) (.ref (.bx 1) 0 [] (.agg [(Enc.enc (w_1.a : List Int))])) (keep_clear (s := s) (pk := [11]) h1 rfl (map_bx rfl (map_agg (maps_cons (Enc.map_enc _ (w_1.a : List Int)) maps_nil)))) (map_bx rfl (map_agg (maps_cons (Enc.map_enc _ (w_1.a : List Int)) maps_nil)))), (hg_3 2 (.sl .nl (Enc.shp Int) 0 []) (.sl .nl (Enc.shp Int) 0 []) (keep_clear (s := s) (pk := [11]) h2 rfl rfl) rfl), (hg_3 3 (encO (.at 11 []) (.of (mk_3 : List Int))) (encO (.at 3 []) (.of (mk_3 : List Int))) rfl (map_encO (r := 11) (p := []) rfl rfl))⟩ ?_
  rintro s ⟨h1, h2, h3⟩
  refine .nsq ?_
  refine .seq ?_
  refine .seq ?_
  refine run_reg ?_
  refine e_end ?_
  refine g_v0 (.int .i64 1) rfl rfl ?_
  refine g_end ?_
  refine e_end ?_
  refine renew [(1, (.ref (.bx 1) 0 [] (.agg [(Enc.enc (w_1.a : List Int))]))), (2, (.sl .nl (Enc.shp Int) 0 [])), (3, (encO (.at 3 []) (.of (mk_3 : List Int)))), (4, (.int .i64 1))] ⟨h1, h2, h3, rfl⟩ ?_
  rintro s ⟨h1, h2, h3, h4⟩
  refine .nsq ?_
  refine .block ?_
  refine .loop ?_
  exact t_f67_l2 H w_1 F mk_3 1 _ ⟨h1, h2, h3, h4⟩ h
end
def e67 (F : Nat) : Ent := ⟨67, dn1 (i_net_treedepths F) (fun (r : (List Int)) => (Enc.enc (r : (List Int)))), 0, true⟩
theorem o67 {D : Den} {σ : Sig} {F : Nat} (hF : Fits2 Try.prog D σ) (H : H67 D σ F) : (e67 F).Ok Try.prog := by
  refine ⟨fun args r h => ?_, ⟨Try.f67, Try.func67, rfl, rfl⟩⟩
  obtain ⟨x0, y, rfl, hy, rfl⟩ := dn1_open h
  exact contract_run hF (by kernel_rfl) Try.func67 rfl c67 (show 1 ≤ Try.f67.ntmps by decide) (t67 H x0 _ rfl hy)
/- loop.example/g01109/impl.TreedepthOf -/
def A29_2 : AC := (AC.cond (O.t 7) (AC.seq (AC.reg [] [(I.mk (some 2) none false (X.v (A.mov (O.k (V.int IntKind.i64 (Int.ofNat 0)))))), (I.mk (some 3) none false (X.v (A.mov (O.k (V.bool false)))))] []) AC.ret) AC.skip)
def A29_4 : AC := (AC.seq (AC.reg [] [(I.mk (some 10) none false (X.v (A.load (Sh.ag [Sh.p]) (O.t 4)))), (I.mk (some 11) none false (X.call (O.k (V.fn 67 [] [])) [(O.t 10)])), (I.mk (some 12) none false (X.v (A.load (Sh.ag [Sh.p]) (O.t 4)))), (I.mk (some 13) none false (X.call (O.k (V.fn 68 [] [])) [(O.t 12)])), (I.mk (some 14) none false (X.v (A.idx (O.t 11) (O.t 13) 1))), (I.mk (some 15) none false (X.v (A.load Sh.s (O.t 14)))), (I.mk (some 2) none false (X.v (A.mov (O.t 15)))), (I.mk (some 3) none false (X.v (A.mov (O.k (V.bool true)))))] []) AC.ret)
def A29_3 : AC := (AC.seq (AC.reg [.clr [4]] [(I.mk (some 8) none false (X.v (A.load (Sh.ag [Sh.s, Sh.p]) (O.t 1)))), (I.mk (some 9) none false (X.call (O.k (V.fn 55 [] [])) [(O.t 8)])), (I.mk (some 4) none false (X.alloc (V.agg [(V.sl Tok.nl Sh.s 0 [])]))), (I.mk none none false (X.store (Sh.ag [Sh.p]) (O.t 4) (O.t 9)))] []) A29_4)
def A29_1 : AC := (AC.seq (AC.seq (AC.reg [] [(I.mk (some 5) none false (X.v (A.load (Sh.ag [Sh.s, Sh.p]) (O.t 1)))), (I.mk (some 6) none false (X.call (O.k (V.fn 50 [] [])) [(O.t 5)])), (I.mk (some 7) none false (X.v (A.un UnOp.not (O.t 6))))] []) A29_2) A29_3)
def A29 : AC := (AC.seq (AC.reg [.clr [1]] [(I.mk (some 1) none false (X.box (O.t 0))), (I.mk (some 2) none false (X.v (A.mov (O.k (V.int IntKind.i64 (Int.ofNat 0)))))), (I.mk (some 3) none false (X.v (A.mov (O.k (V.bool false)))))] []) A29_1)
def an29 : List An := [{ id := 0, pre := [.clr [1]], ep := [], lin := [], sp := [] }, { id := 3, pre := [.clr [4]], ep := [], lin := [], sp := [] }]
theorem c29 : cC Try.prog Try.f29.ntmps an29 (Try.f29.body.getD .skip) = some A29 := by kernel_rfl
structure H29 (D : Den) (σ : Sig) (F : Nat) : Prop where
  c50 : ∀ x0 r, i_IsGraph F x0 = some r → D 50 [Enc.enc x0] = some (Enc.enc (r : Bool))
  g50 : σ 50 = some (0, false)
  c55 : ∀ x0 r, i_netOf F x0 = some r → D 55 [Enc.enc x0] = some (Enc.enc (r : (S1 (List Int))))
  g55 : σ 55 = some (0, true)
  c67 : ∀ x0 r, i_net_treedepths F x0 = some r → D 67 [Enc.enc x0] = some (Enc.enc (r : (List Int)))
  g67 : σ 67 = some (0, true)
  c68 : ∀ x0 r, i_net_all F x0 = some r → D 68 [Enc.enc x0] = some (Enc.enc (r : Int))
  g68 : σ 68 = some (0, false)
abbrev R29 (r : (Int × Bool)) : (Nat → V) → Prop := RR Try.prog [.tmp 2, .tmp 3] 0 false (.tup [Enc.enc (r.1 : Int), Enc.enc (r.2 : Bool)])
section
variable {D : Den} {σ : Sig} {F : Nat} {r : (Int × Bool)}
def i_TreedepthOf (F : Nat) (g_1 : (Int × (List (Int × Int)))) : Option (Int × Bool) :=
  (i_IsGraph F g_1).bind fun r_2 =>
  bif (!r_2) then
    some (0, false)
  else
    (i_netOf F g_1).bind fun r_3 =>
    (i_net_treedepths F r_3).bind fun r_4 =>
    (i_net_all F r_3).bind fun r_5 =>
    (idx r_4 r_5).bind fun e_6 =>
    some (e_6, true)
theorem t29 (H : H29 D σ F) (g_1 : (Int × (List (Int × Int)))) (s : Nat → V) (hs : Facts [(0, (.agg [(.int .i64 g_1.1), (Enc.enc (g_1.2 : List (Int × Int)))]))] s) (h : i_TreedepthOf F g_1 = some r) : Run D σ (R29 r) (.run A29 []) s := by
  unfold i_TreedepthOf at h
  have h0 := hs
  refine .seq ?_
  refine run_reg ?_
  refine e_clr ?_
  refine e_end ?_
  refine g_box (.agg [(.int .i64 g_1.1), (Enc.enc (g_1.2 : List (Int × Int)))]) (rd_of (keep_clear (s := s) (pk := [1]) h0 rfl (map_agg (maps_cons rfl (maps_cons (Enc.map_enc _ (g_1.2 : List (Int × Int))) maps_nil)))) rfl) (gone_clear (s := s) (pk := [1]) (t := 1) rfl) rfl ?_
  refine g_v0 (.int .i64 0) rfl rfl ?_
  refine g_v0 (.bool false) rfl rfl ?_
  refine g_end ?_
  refine e_end ?_
  refine renew [(1, (.ref (.bx 1) 0 [] (.agg [(.int .i64 g_1.1), (Enc.enc (g_1.2 : List (Int × Int)))]))), (2, (.int .i64 0)), (3, (.bool false))] ⟨rfl, rfl, rfl⟩ ?_
  rintro s ⟨h1, h2, h3⟩
  refine .nsq ?_
  refine .seq ?_
  refine .seq ?_
  refine run_reg ?_
  refine e_end ?_
  refine g_v1 (t := 1) (u := (.ref (.bx 1) 0 [] (.agg [(.int .i64 g_1.1), (Enc.enc (g_1.2 : List (Int × Int)))]))) (.agg [(.int .i64 g_1.1), (Enc.enc (g_1.2 : List (Int × Int)))]) h1 rfl rfl ?_
  obtain ⟨r_2, E_r_2, h⟩ := bind_some h
  refine g_call (m := 0) (al := false) (r := (Enc.enc (r_2 : Bool))) [Enc.enc (g_1 : (Int × (List (Int × Int))))] (ta_cons (v := (.agg [(.int .i64 g_1.1), (Enc.enc (g_1.2 : List (Int × Int)))])) rfl rfl (Enc.erase_enc (g_1 : (Int × (List (Int × Int))))) ta_nil) (H.c50 _ _ E_r_2) H.g50 rfl rfl rfl rfl ?_
  refine g_v1 (t := 6) (u := (.bool r_2)) (.bool (!r_2)) rfl rfl rfl ?_
  refine g_end ?_
  refine e_end ?_
  refine renew [(1, (.ref (.bx 1) 0 [] (.agg [(.int .i64 g_1.1), (Enc.enc (g_1.2 : List (Int × Int)))]))), (2, (.int .i64 0)), (3, (.bool false)), (7, (.bool (!r_2)))] ⟨h1, h2, h3, rfl⟩ ?_
  rintro s ⟨h1, h2, h3, h7⟩
  refine .nsq ?_
  refine run_cond (t := (!r_2)) h7 h (fun h => ?_) (fun h => ?_)
  · refine .seq ?_
    refine run_reg ?_
    refine e_end ?_
    refine g_v0 (.int .i64 0) rfl rfl ?_
    refine g_v0 (.bool false) rfl rfl ?_
    refine g_end ?_
    refine e_end ?_
    refine renew [(1, (.ref (.bx 1) 0 [] (.agg [(.int .i64 g_1.1), (Enc.enc (g_1.2 : List (Int × Int)))]))), (2, (.int .i64 0)), (3, (.bool false))] ⟨h1, rfl, rfl⟩ ?_
    rintro s ⟨h1, h2, h3⟩
    refine .nsq ?_
    refine .ret ?_
    have hr := Option.some.inj h
    subst hr
    exact rrB (res_tmp h2) (res_tmp h3) rfl
  · refine .skip ?_
    refine .nsq ?_
    refine .seq ?_
    refine run_reg ?_
    refine e_clr ?_
    refine e_end ?_
    refine g_v1 (t := 1) (u := (.ref (.bx 1) 0 [] (.agg [(.int .i64 g_1.1), (Enc.enc (g_1.2 : List (Int × Int)))]))) (.agg [(.int .i64 g_1.1), (Enc.enc (g_1.2 : List (Int × Int)))]) (keep_clear (s := s) (pk := [4]) h1 rfl (map_bx rfl (map_agg (maps_cons rfl (maps_cons (Enc.map_enc _ (g_1.2 : List (Int × Int))) maps_nil))))) rfl rfl ?_
    obtain ⟨r_3, E_r_3, h⟩ := bind_some h
    refine g_call (m := 0) (al := true) (r := (Enc.enc (r_3 : (S1 (List Int))))) [Enc.enc (g_1 : (Int × (List (Int × Int))))] (ta_cons (v := (.agg [(.int .i64 g_1.1), (Enc.enc (g_1.2 : List (Int × Int)))])) rfl rfl (Enc.erase_enc (g_1 : (Int × (List (Int × Int))))) ta_nil) (H.c55 _ _ E_r_3) H.g55 (hal_of (ht_cons (v := (.agg [(.int .i64 g_1.1), (Enc.enc (g_1.2 : List (Int × Int)))])) rfl rfl rfl ht_nil)) rfl rfl rfl ?_
    refine g_alloc (gone_clear (s := s) (pk := [4]) (t := 4) rfl) ?_
    refine g_store (.agg [(Enc.enc (r_3.a : List Int))]) (rd_of rfl rfl) (rd_of rfl rfl) (by refine ⟨by decide, by decide, rfl, rfl, rfl, ?_⟩; first | rfl | simp [V.toks, V.tokss, Enc.toks_enc]) ?_
    refine g_end ?_
    refine e_end ?_
    refine renew [(2, (.int .i64 0)), (3, (.bool false)), (4, (.ref (.bx 4) 0 [] (.agg [(Enc.enc (r_3.a : List Int))])))] ⟨(keep_mut (keep_clear (s := s) (pk := [4]) h2 rfl rfl) rfl), (keep_mut (keep_clear (s := s) (pk := [4]) h3 rfl rfl) rfl), (keep_mut rfl rfl)⟩ ?_
    rintro s ⟨h2, h3, h4⟩
    refine .nsq ?_
    refine .seq ?_
    refine run_reg ?_
    refine e_end ?_
    refine g_v1 (t := 4) (u := (.ref (.bx 4) 0 [] (.agg [(Enc.enc (r_3.a : List Int))]))) (.agg [(Enc.enc (r_3.a : List Int))]) h4 rfl rfl ?_
    obtain ⟨r_4, E_r_4, h⟩ := bind_some h
    refine g_call (m := 0) (al := true) (r := (Enc.enc (r_4 : (List Int)))) [Enc.enc (r_3 : (S1 (List Int)))] (ta_cons (v := (.agg [(Enc.enc (r_3.a : List Int))])) rfl rfl (Enc.erase_enc (r_3 : (S1 (List Int)))) ta_nil) (H.c67 _ _ E_r_4) H.g67 (hal_of (ht_cons (v := (.agg [(Enc.enc (r_3.a : List Int))])) rfl rfl rfl ht_nil)) rfl rfl rfl ?_
    refine g_v1 (t := 4) (u := (.ref (.bx 4) 0 [] (.agg [(Enc.enc (r_3.a : List Int))]))) (.agg [(Enc.enc (r_3.a : List Int))]) h4 rfl rfl ?_
    obtain ⟨r_5, E_r_5, h⟩ := bind_some h
    refine g_call (m := 0) (al := false) (r := (Enc.enc (r_5 : Int))) [Enc.enc (r_3 : (S1 (List Int)))] (ta_cons (v := (.agg [(Enc.enc (r_3.a : List Int))])) rfl rfl (Enc.erase_enc (r_3 : (S1 (List Int)))) ta_nil) (H.c68 _ _ E_r_5) H.g68 rfl rfl rfl rfl ?_
    obtain ⟨e_6, E_e_6, h⟩ := bind_some h
    refine g_v (.ref .sh 0 [] (.int .i64 e_6)) (ev_idx (t := .sh) (lo := 0) (xs := r_4) rfl rfl E_e_6 rfl rfl) ?_
    refine g_v1 (t := 14) (u := (.ref .sh 0 [] (.int .i64 e_6))) (.int .i64 e_6) rfl rfl rfl ?_
    refine g_v1 (t := 15) (u := (.int .i64 e_6)) (.int .i64 e_6) rfl rfl rfl ?_
    refine g_v0 (.bool true) rfl rfl ?_
    refine g_end ?_
    refine e_end ?_
    refine renew [(2, (.int .i64 e_6)), (3, (.bool true))] ⟨rfl, rfl⟩ ?_
    rintro s ⟨h2, h3⟩
    refine .nsq ?_
    refine .ret ?_
    have hr := Option.some.inj h
    subst hr
    exact rrB (res_tmp h2) (res_tmp h3) rfl
end
def e29 (F : Nat) : Ent := ⟨29, dn1 (i_TreedepthOf F) (fun (r : (Int × Bool)) => (.tup [Enc.enc (r.1 : Int), Enc.enc (r.2 : Bool)])), 0, false⟩
theorem o29 {D : Den} {σ : Sig} {F : Nat} (hF : Fits2 Try.prog D σ) (H : H29 D σ F) : (e29 F).Ok Try.prog := by
  refine ⟨fun args r h => ?_, ⟨Try.f29, Try.func29, rfl, rfl⟩⟩
  obtain ⟨x0, y, rfl, hy, rfl⟩ := dn1_open h
  exact contract_run hF (by kernel_rfl) Try.func29 rfl c29 (show 1 ≤ Try.f29.ntmps by decide) (t29 H x0 _ rfl hy)
/- loop.example/g01109/laws.eqIntA2 -/
def A104_2 : AC := (AC.cond (O.t 7) AC.skip (AC.exit 0))
def A104_4 : AC := (AC.cond (O.t 16) (AC.seq (AC.reg [] [(I.mk (some 4) none false (X.v (A.mov (O.k (V.bool false)))))] []) AC.ret) AC.skip)
def A104_5 : AC := (AC.reg [] [(I.mk (some 8) none false (X.v (A.mov (O.t 5)))), (I.mk (some 9) none false (X.v (A.bin BinOp.add (O.t 8) (O.k (V.int IntKind.i64 (Int.ofNat 1)))))), (I.mk (some 5) none false (X.v (A.mov (O.t 9))))] [])
def A104_3 : AC := (AC.seq (AC.block 1 (AC.seq (AC.reg [] [(I.mk (some 10) none false (X.v (A.mov (O.t 5)))), (I.mk (some 11) none false (X.v (A.idxA (O.t 2) (O.t 10) 2 1))), (I.mk (some 12) none false (X.v (A.load Sh.s (O.t 11)))), (I.mk (some 13) none false (X.v (A.mov (O.t 5)))), (I.mk (some 14) none false (X.v (A.idxA (O.t 3) (O.t 13) 2 1))), (I.mk (some 15) none false (X.v (A.load Sh.s (O.t 14)))), (I.mk (some 16) none false (X.v (A.bin BinOp.neq (O.t 12) (O.t 15))))] []) A104_4)) A104_5)
def A104_1 : AC := (AC.seq (AC.seq (AC.reg [] [(I.mk (some 6) none false (X.v (A.mov (O.t 5)))), (I.mk (some 7) none false (X.v (A.bin BinOp.lss (O.t 6) (O.k (V.int IntKind.i64 (Int.ofNat 2))))))] []) A104_2) A104_3)
def A104_6 : AC := (AC.seq (AC.reg [] [(I.mk (some 4) none false (X.v (A.mov (O.k (V.bool true)))))] []) AC.ret)
def A104_8 : AC := (AC.block 0 (AC.loop A104_1))
def A104_7 : AC := (AC.seq (AC.seq (AC.reg [] [(I.mk (some 5) none false (X.v (A.mov (O.k (V.int IntKind.i64 (Int.ofNat 0))))))] []) A104_8) A104_6)
def A104 : AC := (AC.seq (AC.reg [.clr [2, 3]] [(I.mk (some 2) none false (X.box (O.t 0))), (I.mk (some 3) none false (X.box (O.t 1))), (I.mk (some 4) none false (X.v (A.mov (O.k (V.bool false)))))] []) A104_7)
def an104 : List An := [{ id := 0, pre := [.clr [2, 3]], ep := [], lin := [], sp := [] }]
theorem c104 : cC Try.prog Try.f104.ntmps an104 (Try.f104.body.getD .skip) = some A104 := by kernel_rfl
structure H104 (D : Den) (σ : Sig) (F : Nat) : Prop where
  mk ::
abbrev R104 (r : Bool) : (Nat → V) → Prop := RR Try.prog [.tmp 4] 0 false (Enc.enc (r : Bool))
section
variable {D : Den} {σ : Sig} {F : Nat} {r : Bool}
def w_eqIntA2_l1 (F : Nat) (a_1 : (Int × Int)) (b_2 : (Int × Int))  : Nat → Int → Option Bool
  | 0, _ => none
  | k + 1, i_3 =>
    bif decide (i_3 < 2) then
      (idx [a_1.1, a_1.2] i_3).bind fun e_6 =>
      (idx [b_2.1, b_2.2] i_3).bind fun e_7 =>
      bif (e_6 != e_7) then
        some false
      else
        (w_eqIntA2_l1 F a_1 b_2 k) (w64 (i_3 + 1))
    else
      some true
theorem t_f104_l1 (H : H104 D σ F) (a_1 : (Int × Int)) (b_2 : (Int × Int))  : ∀ (k : Nat) (i_3 : Int) (s : Nat → V), Facts [(2, (.ref (.bx 2) 0 [] (.agg [(.int .i64 a_1.1), (.int .i64 a_1.2)]))), (3, (.ref (.bx 3) 0 [] (.agg [(.int .i64 b_2.1), (.int .i64 b_2.2)]))), (4, (.bool false)), (5, (.int .i64 i_3))] s → w_eqIntA2_l1 F a_1 b_2 k i_3 = some r → Run D σ (R104 r) (.run A104_1 [.lp A104_1, .bk 0, .sq A104_6]) s := by
  intro k
  induction k with
  | zero => intro i_3 s _ h; exact nomatch (h : (none : Option _) = some r)
  | succ k ih =>
    intro i_3 s hs h
    rw [w_eqIntA2_l1] at h
    obtain ⟨h2, h3, h4, h5⟩ := hs
    refine .seq ?_
    refine .seq ?_
    refine run_reg ?_
    refine e_end ?_
    refine g_v1 (t := 5) (u := (.int .i64 i_3)) (.int .i64 i_3) h5 rfl rfl ?_
    refine g_v1 (t := 6) (u := (.int .i64 i_3)) (.bool (decide (i_3 < 2))) rfl rfl rfl ?_
    refine g_end ?_
    refine e_end ?_
    refine renew [(2, (.ref (.bx 2) 0 [] (.agg [(.int .i64 a_1.1), (.int .i64 a_1.2)]))), (3, (.ref (.bx 3) 0 [] (.agg [(.int .i64 b_2.1), (.int .i64 b_2.2)]))), (4, (.bool false)), (5, (.int .i64 i_3)), (7, (.bool (decide (i_3 < 2))))] ⟨h2, h3, h4, h5, rfl⟩ ?_
    rintro s ⟨h2, h3, h4, h5, h7⟩
    refine .nsq ?_
    refine run_cond (t := decide (i_3 < 2)) h7 h (fun h => ?_) (fun h => ?_)
    · refine .skip ?_
      refine .nsq ?_
      refine .seq ?_
      refine .block ?_
      refine .seq ?_
      refine run_reg ?_
      refine e_end ?_
      refine g_v1 (t := 5) (u := (.int .i64 i_3)) (.int .i64 i_3) h5 rfl rfl ?_
      obtain ⟨e_6, E_e_6, h⟩ := bind_some h
      refine g_v (.ref (.bx 2) 0 [i_3.toNat] (.int .i64 e_6)) (ev_idxA (xs := [a_1.1, a_1.2]) (a := e_6) (n := i_3) (q := []) h2 rfl E_e_6 rfl rfl rfl) ?_
      refine g_v1 (t := 11) (u := (.ref (.bx 2) 0 [i_3.toNat] (.int .i64 e_6))) (.int .i64 e_6) rfl rfl rfl ?_
      refine g_v1 (t := 5) (u := (.int .i64 i_3)) (.int .i64 i_3) h5 rfl rfl ?_
      obtain ⟨e_7, E_e_7, h⟩ := bind_some h
      refine g_v (.ref (.bx 3) 0 [i_3.toNat] (.int .i64 e_7)) (ev_idxA (xs := [b_2.1, b_2.2]) (a := e_7) (n := i_3) (q := []) h3 rfl E_e_7 rfl rfl rfl) ?_
      refine g_v1 (t := 14) (u := (.ref (.bx 3) 0 [i_3.toNat] (.int .i64 e_7))) (.int .i64 e_7) rfl rfl rfl ?_
      refine g_v2 (t1 := 12) (t2 := 15) (u1 := (.int .i64 e_6)) (u2 := (.int .i64 e_7)) (.bool (e_6 != e_7)) rfl rfl rfl rfl ?_
      refine g_end ?_
      refine e_end ?_
      refine renew [(2, (.ref (.bx 2) 0 [] (.agg [(.int .i64 a_1.1), (.int .i64 a_1.2)]))), (3, (.ref (.bx 3) 0 [] (.agg [(.int .i64 b_2.1), (.int .i64 b_2.2)]))), (4, (.bool false)), (5, (.int .i64 i_3)), (16, (.bool (e_6 != e_7)))] ⟨h2, h3, h4, h5, rfl⟩ ?_
      rintro s ⟨h2, h3, h4, h5, h16⟩
      refine .nsq ?_
      refine run_cond (t := (e_6 != e_7)) h16 h (fun h => ?_) (fun h => ?_)
      · refine .seq ?_
        refine run_reg ?_
        refine e_end ?_
        refine g_v0 (.bool false) rfl rfl ?_
        refine g_end ?_
        refine e_end ?_
        refine renew [(2, (.ref (.bx 2) 0 [] (.agg [(.int .i64 a_1.1), (.int .i64 a_1.2)]))), (3, (.ref (.bx 3) 0 [] (.agg [(.int .i64 b_2.1), (.int .i64 b_2.2)]))), (4, (.bool false)), (5, (.int .i64 i_3))] ⟨h2, h3, rfl, h5⟩ ?_
        rintro s ⟨h2, h3, h4, h5⟩
        refine .nsq ?_
        refine .ret ?_
        have hr := Option.some.inj h
        subst hr
        exact rrA (res_tmp h4) rfl
      · refine .skip ?_
        refine .nbk ?_
        refine .nsq ?_
        refine run_reg ?_
        refine e_end ?_
        refine g_v1 (t := 5) (u := (.int .i64 i_3)) (.int .i64 i_3) h5 rfl rfl ?_
        refine g_v1 (t := 8) (u := (.int .i64 i_3)) (.int .i64 (w64 (i_3 + 1))) rfl rfl rfl ?_
        refine g_v1 (t := 9) (u := (.int .i64 (w64 (i_3 + 1)))) (.int .i64 (w64 (i_3 + 1))) rfl rfl rfl ?_
        refine g_end ?_
        refine e_end ?_
        refine renew [(2, (.ref (.bx 2) 0 [] (.agg [(.int .i64 a_1.1), (.int .i64 a_1.2)]))), (3, (.ref (.bx 3) 0 [] (.agg [(.int .i64 b_2.1), (.int .i64 b_2.2)]))), (4, (.bool false)), (5, (.int .i64 (w64 (i_3 + 1))))] ⟨h2, h3, h4, rfl⟩ ?_
        rintro s ⟨h2, h3, h4, h5⟩
        refine .nlp ?_
        exact ih (w64 (i_3 + 1)) _ ⟨h2, h3, h4, h5⟩ h
    · refine .exit ?_
      refine .esq ?_
      refine .elp ?_
      refine .ebk ?_
      refine .nsq ?_
      refine .seq ?_
      refine run_reg ?_
      refine e_end ?_
      refine g_v0 (.bool true) rfl rfl ?_
      refine g_end ?_
      refine e_end ?_
      refine renew [(4, (.bool true))] rfl ?_
      rintro s h4
      refine .nsq ?_
      refine .ret ?_
      have hr := Option.some.inj h
      subst hr
      exact rrA (res_tmp h4) rfl
def w_eqIntA2 (F : Nat) (a_1 : (Int × Int)) (b_2 : (Int × Int)) : Option Bool :=
  w_eqIntA2_l1 F a_1 b_2 F 0
theorem t104 (H : H104 D σ F) (a_1 : (Int × Int)) (b_2 : (Int × Int)) (s : Nat → V) (hs : Facts [(0, (.agg [(.int .i64 a_1.1), (.int .i64 a_1.2)])), (1, (.agg [(.int .i64 b_2.1), (.int .i64 b_2.2)]))] s) (h : w_eqIntA2 F a_1 b_2 = some r) : Run D σ (R104 r) (.run A104 []) s := by
  unfold w_eqIntA2 at h
  obtain ⟨h0, h1⟩ := hs
  refine .seq ?_
  refine run_reg ?_
  refine e_clr ?_
  refine e_end ?_
  refine g_box (.agg [(.int .i64 a_1.1), (.int .i64 a_1.2)]) (rd_of (keep_clear (s := s) (pk := [2, 3]) h0 rfl (map_agg (maps_cons rfl (maps_cons rfl maps_nil)))) rfl) (gone_clear (s := s) (pk := [2, 3]) (t := 2) rfl) rfl ?_
  refine g_box (.agg [(.int .i64 b_2.1), (.int .i64 b_2.2)]) (rd_of (keep_clear (s := s) (pk := [2, 3]) h1 rfl (map_agg (maps_cons rfl (maps_cons rfl maps_nil)))) rfl) (gone_clear (s := s) (pk := [2, 3]) (t := 3) rfl) rfl ?_
  refine g_v0 (.bool false) rfl rfl ?_
  refine g_end ?_
  refine e_end ?_
  refine renew [(2, (.ref (.bx 2) 0 [] (.agg [(.int .i64 a_1.1), (.int .i64 a_1.2)]))), (3, (.ref (.bx 3) 0 [] (.agg [(.int .i64 b_2.1), (.int .i64 b_2.2)]))), (4, (.bool false))] ⟨rfl, rfl, rfl⟩ ?_
  rintro s ⟨h2, h3, h4⟩
  refine .nsq ?_
  refine .seq ?_
  refine .seq ?_
  refine run_reg ?_
  refine e_end ?_
  refine g_v0 (.int .i64 0) rfl rfl ?_
  refine g_end ?_
  refine e_end ?_
  refine renew [(2, (.ref (.bx 2) 0 [] (.agg [(.int .i64 a_1.1), (.int .i64 a_1.2)]))), (3, (.ref (.bx 3) 0 [] (.agg [(.int .i64 b_2.1), (.int .i64 b_2.2)]))), (4, (.bool false)), (5, (.int .i64 0))] ⟨h2, h3, h4, rfl⟩ ?_
  rintro s ⟨h2, h3, h4, h5⟩
  refine .nsq ?_
  refine .block ?_
  refine .loop ?_
  exact t_f104_l1 H a_1 b_2 F 0 _ ⟨h2, h3, h4, h5⟩ h
end
def e104 (F : Nat) : Ent := ⟨104, dn2 (w_eqIntA2 F) (fun (r : Bool) => (Enc.enc (r : Bool))), 0, false⟩
theorem o104 {D : Den} {σ : Sig} {F : Nat} (hF : Fits2 Try.prog D σ) (H : H104 D σ F) : (e104 F).Ok Try.prog := by
  refine ⟨fun args r h => ?_, ⟨Try.f104, Try.func104, rfl, rfl⟩⟩
  obtain ⟨x0, x1, y, rfl, hy, rfl⟩ := dn2_open h
  exact contract_run hF (by kernel_rfl) Try.func104 rfl c104 (show 2 ≤ Try.f104.ntmps by decide) (t104 H x0 x1 _ ⟨rfl, rfl⟩ hy)
/- loop.example/g01109/laws.eqIntA2S -/
def A53_2 : AC := (AC.cond (O.t 14) AC.skip (AC.exit 0))
def A53_4 : AC := (AC.cond (O.t 26) (AC.seq (AC.reg [] [(I.mk (some 4) none false (X.v (A.mov (O.k (V.bool false)))))] []) AC.ret) AC.skip)
def A53_5 : AC := (AC.reg [] [(I.mk (some 15) none false (X.v (A.mov (O.t 5)))), (I.mk (some 16) none false (X.v (A.bin BinOp.add (O.t 15) (O.k (V.int IntKind.i64 (Int.ofNat 1)))))), (I.mk (some 5) none false (X.v (A.mov (O.t 16))))] [])
def A53_3 : AC := (AC.seq (AC.block 1 (AC.seq (AC.reg [] [(I.mk (some 17) none false (X.v (A.mov (O.t 0)))), (I.mk (some 18) none false (X.v (A.mov (O.t 5)))), (I.mk (some 19) none false (X.v (A.idx (O.t 17) (O.t 18) 2))), (I.mk (some 20) none false (X.v (A.load (Sh.ag [Sh.s, Sh.s]) (O.t 19)))), (I.mk (some 21) none false (X.v (A.mov (O.t 1)))), (I.mk (some 22) none false (X.v (A.mov (O.t 5)))), (I.mk (some 23) none false (X.v (A.idx (O.t 21) (O.t 22) 2))), (I.mk (some 24) none false (X.v (A.load (Sh.ag [Sh.s, Sh.s]) (O.t 23)))), (I.mk (some 25) none false (X.call (O.k (V.fn 104 [] [])) [(O.t 20), (O.t 24)])), (I.mk (some 26) none false (X.v (A.un UnOp.not (O.t 25))))] []) A53_4)) A53_5)
def A53_1 : AC := (AC.seq (AC.seq (AC.reg [] [(I.mk (some 11) none false (X.v (A.mov (O.t 5)))), (I.mk (some 12) none false (X.v (A.mov (O.t 0)))), (I.mk (some 13) none false (X.v (A.len (O.t 12)))), (I.mk (some 14) none false (X.v (A.bin BinOp.lss (O.t 11) (O.t 13))))] []) A53_2) A53_3)
def A53_6 : AC := (AC.seq (AC.reg [] [(I.mk (some 4) none false (X.v (A.mov (O.k (V.bool true)))))] []) AC.ret)
def A53_8 : AC := (AC.cond (O.t 10) (AC.seq (AC.reg [] [(I.mk (some 4) none false (X.v (A.mov (O.k (V.bool false)))))] []) AC.ret) AC.skip)
def A53_10 : AC := (AC.block 0 (AC.loop A53_1))
def A53_9 : AC := (AC.seq (AC.seq (AC.reg [] [(I.mk (some 5) none false (X.v (A.mov (O.k (V.int IntKind.i64 (Int.ofNat 0))))))] []) A53_10) A53_6)
def A53_7 : AC := (AC.seq (AC.seq (AC.reg [] [(I.mk (some 6) none false (X.v (A.mov (O.t 0)))), (I.mk (some 7) none false (X.v (A.len (O.t 6)))), (I.mk (some 8) none false (X.v (A.mov (O.t 1)))), (I.mk (some 9) none false (X.v (A.len (O.t 8)))), (I.mk (some 10) none false (X.v (A.bin BinOp.neq (O.t 7) (O.t 9))))] []) A53_8) A53_9)
def A53 : AC := (AC.seq (AC.reg [] [(I.mk (some 4) none false (X.v (A.mov (O.k (V.bool false)))))] []) A53_7)
def an53 : List An := []
theorem c53 : cC Try.prog Try.f53.ntmps an53 (Try.f53.body.getD .skip) = some A53 := by kernel_rfl
structure H53 (D : Den) (σ : Sig) (F : Nat) : Prop where
  c104 : ∀ x0 x1 r, w_eqIntA2 F x0 x1 = some r → D 104 [Enc.enc x0, Enc.enc x1] = some (Enc.enc (r : Bool))
  g104 : σ 104 = some (0, false)
abbrev R53 (r : Bool) : (Nat → V) → Prop := RR Try.prog [.tmp 4] 0 false (Enc.enc (r : Bool))
section
variable {D : Den} {σ : Sig} {F : Nat} {r : Bool}
def w_eqIntA2S_l1 (F : Nat) (a_1 : (List (Int × Int))) (b_2 : (List (Int × Int)))  : Nat → Int → Option Bool
  | 0, _ => none
  | k + 1, i_6 =>
    bif decide (i_6 < (a_1.length : Int)) then
      (idx a_1 i_6).bind fun e_10 =>
      (idx b_2 i_6).bind fun e_11 =>
      (w_eqIntA2 F e_10 e_11).bind fun r_12 =>
      bif (!r_12) then
        some false
      else
        (w_eqIntA2S_l1 F a_1 b_2 k) (w64 (i_6 + 1))
    else
      some true
theorem t_f53_l1 (H : H53 D σ F) (a_1 : (List (Int × Int))) (b_2 : (List (Int × Int)))  : ∀ (k : Nat) (i_6 : Int) (s : Nat → V), Facts [(0, (Enc.enc (a_1 : List (Int × Int)))), (1, (Enc.enc (b_2 : List (Int × Int)))), (4, (.bool false)), (5, (.int .i64 i_6))] s → w_eqIntA2S_l1 F a_1 b_2 k i_6 = some r → Run D σ (R53 r) (.run A53_1 [.lp A53_1, .bk 0, .sq A53_6]) s := by
  intro k
  induction k with
  | zero => intro i_6 s _ h; exact nomatch (h : (none : Option _) = some r)
  | succ k ih =>
    intro i_6 s hs h
    rw [w_eqIntA2S_l1] at h
    obtain ⟨h0, h1, h4, h5⟩ := hs
    refine .seq ?_
    refine .seq ?_
    refine run_reg ?_
    refine e_end ?_
    refine g_v1 (t := 5) (u := (.int .i64 i_6)) (.int .i64 i_6) h5 rfl rfl ?_
    refine g_v1 (t := 0) (u := (Enc.enc (a_1 : List (Int × Int)))) (Enc.enc (a_1 : List (Int × Int))) h0 rfl rfl ?_
    refine g_v (.int .i64 (a_1.length : Int)) (ev_len (xs := a_1) rfl) ?_
    refine g_v2 (t1 := 11) (t2 := 13) (u1 := (.int .i64 i_6)) (u2 := (.int .i64 (a_1.length : Int))) (.bool (decide (i_6 < (a_1.length : Int)))) rfl rfl rfl rfl ?_
    refine g_end ?_
    refine e_end ?_
    refine renew [(0, (Enc.enc (a_1 : List (Int × Int)))), (1, (Enc.enc (b_2 : List (Int × Int)))), (4, (.bool false)), (5, (.int .i64 i_6)), (14, (.bool (decide (i_6 < (a_1.length : Int)))))] ⟨h0, h1, h4, h5, rfl⟩ ?_
    rintro s ⟨h0, h1, h4, h5, h14⟩
    refine .nsq ?_
    refine run_cond (t := decide (i_6 < (a_1.length : Int))) h14 h (fun h => ?_) (fun h => ?_)
    · refine .skip ?_
      refine .nsq ?_
      refine .seq ?_
      refine .block ?_
      refine .seq ?_
      refine run_reg ?_
      refine e_end ?_
      refine g_v1 (t := 0) (u := (Enc.enc (a_1 : List (Int × Int)))) (Enc.enc (a_1 : List (Int × Int))) h0 rfl rfl ?_
      refine g_v1 (t := 5) (u := (.int .i64 i_6)) (.int .i64 i_6) h5 rfl rfl ?_
      obtain ⟨e_10, E_e_10, h⟩ := bind_some h
      refine g_v (.ref .sh 0 [] (.agg [(.int .i64 e_10.1), (.int .i64 e_10.2)])) (ev_idx (t := .sh) (lo := 0) (xs := a_1) rfl rfl E_e_10 rfl rfl) ?_
      refine g_v1 (t := 19) (u := (.ref .sh 0 [] (.agg [(.int .i64 e_10.1), (.int .i64 e_10.2)]))) (.agg [(.int .i64 e_10.1), (.int .i64 e_10.2)]) rfl rfl rfl ?_
      refine g_v1 (t := 1) (u := (Enc.enc (b_2 : List (Int × Int)))) (Enc.enc (b_2 : List (Int × Int))) h1 rfl rfl ?_
      refine g_v1 (t := 5) (u := (.int .i64 i_6)) (.int .i64 i_6) h5 rfl rfl ?_
      obtain ⟨e_11, E_e_11, h⟩ := bind_some h
      refine g_v (.ref .sh 0 [] (.agg [(.int .i64 e_11.1), (.int .i64 e_11.2)])) (ev_idx (t := .sh) (lo := 0) (xs := b_2) rfl rfl E_e_11 rfl rfl) ?_
      refine g_v1 (t := 23) (u := (.ref .sh 0 [] (.agg [(.int .i64 e_11.1), (.int .i64 e_11.2)]))) (.agg [(.int .i64 e_11.1), (.int .i64 e_11.2)]) rfl rfl rfl ?_
      obtain ⟨r_12, E_r_12, h⟩ := bind_some h
      refine g_call (m := 0) (al := false) (r := (Enc.enc (r_12 : Bool))) [Enc.enc (e_10 : (Int × Int)), Enc.enc (e_11 : (Int × Int))] (ta_cons (v := (.agg [(.int .i64 e_10.1), (.int .i64 e_10.2)])) rfl rfl (Enc.erase_enc (e_10 : (Int × Int))) (ta_cons (v := (.agg [(.int .i64 e_11.1), (.int .i64 e_11.2)])) rfl rfl (Enc.erase_enc (e_11 : (Int × Int))) ta_nil)) (H.c104 _ _ _ E_r_12) H.g104 rfl rfl rfl rfl ?_
      refine g_v1 (t := 25) (u := (.bool r_12)) (.bool (!r_12)) rfl rfl rfl ?_
      refine g_end ?_
      refine e_end ?_
      refine renew [(0, (Enc.enc (a_1 : List (Int × Int)))), (1, (Enc.enc (b_2 : List (Int × Int)))), (4, (.bool false)), (5, (.int .i64 i_6)), (26, (.bool (!r_12)))] ⟨h0, h1, h4, h5, rfl⟩ ?_
      rintro s ⟨h0, h1, h4, h5, h26⟩
      refine .nsq ?_
      refine run_cond (t := (!r_12)) h26 h (fun h => ?_) (fun h => ?_)
      · refine .seq ?_
        refine run_reg ?_
        refine e_end ?_
        refine g_v0 (.bool false) rfl rfl ?_
        refine g_end ?_
        refine e_end ?_
        refine renew [(0, (Enc.enc (a_1 : List (Int × Int)))), (1, (Enc.enc (b_2 : List (Int × Int)))), (4, (.bool false)), (5, (.int .i64 i_6))] ⟨h0, h1, rfl, h5⟩ ?_
        rintro s ⟨h0, h1, h4, h5⟩
        refine .nsq ?_
        refine .ret ?_
        have hr := Option.some.inj h
        subst hr
        exact rrA (res_tmp h4) rfl
      · refine .skip ?_
        refine .nbk ?_
        refine .nsq ?_
        refine run_reg ?_
        refine e_end ?_
        refine g_v1 (t := 5) (u := (.int .i64 i_6)) (.int .i64 i_6) h5 rfl rfl ?_
        refine g_v1 (t := 15) (u := (.int .i64 i_6)) (.int .i64 (w64 (i_6 + 1))) rfl rfl rfl ?_
        refine g_v1 (t := 16) (u := (.int .i64 (w64 (i_6 + 1)))) (.int .i64 (w64 (i_6 + 1))) rfl rfl rfl ?_
        refine g_end ?_
        refine e_end ?_
        refine renew [(0, (Enc.enc (a_1 : List (Int × Int)))), (1, (Enc.enc (b_2 : List (Int × Int)))), (4, (.bool false)), (5, (.int .i64 (w64 (i_6 + 1))))] ⟨h0, h1, h4, rfl⟩ ?_
        rintro s ⟨h0, h1, h4, h5⟩
        refine .nlp ?_
        exact ih (w64 (i_6 + 1)) _ ⟨h0, h1, h4, h5⟩ h
    · refine .exit ?_
      refine .esq ?_
      refine .elp ?_
      refine .ebk ?_
      refine .nsq ?_
      refine .seq ?_
      refine run_reg ?_
      refine e_end ?_
      refine g_v0 (.bool true) rfl rfl ?_
      refine g_end ?_
      refine e_end ?_
      refine renew [(4, (.bool true))] rfl ?_
      rintro s h4
      refine .nsq ?_
      refine .ret ?_
      have hr := Option.some.inj h
      subst hr
      exact rrA (res_tmp h4) rfl
def w_eqIntA2S (F : Nat) (a_1 : (List (Int × Int))) (b_2 : (List (Int × Int))) : Option Bool :=
  bif ((a_1.length : Int) != (b_2.length : Int)) then
    some false
  else
    w_eqIntA2S_l1 F a_1 b_2 F 0
theorem t53 (H : H53 D σ F) (a_1 : (List (Int × Int))) (b_2 : (List (Int × Int))) (s : Nat → V) (hs : Facts [(0, (Enc.enc (a_1 : List (Int × Int)))), (1, (Enc.enc (b_2 : List (Int × Int))))] s) (h : w_eqIntA2S F a_1 b_2 = some r) : Run D σ (R53 r) (.run A53 []) s := by
  unfold w_eqIntA2S at h
  obtain ⟨h0, h1⟩ := hs
  refine .seq ?_
  refine run_reg ?_
  refine e_end ?_
  refine g_v0 (.bool false) rfl rfl ?_
  refine g_end ?_
  refine e_end ?_
  refine renew [(0, (Enc.enc (a_1 : List (Int × Int)))), (1, (Enc.enc (b_2 : List (Int × Int)))), (4, (.bool false))] ⟨h0, h1, rfl⟩ ?_
  rintro s ⟨h0, h1, h4⟩
  refine .nsq ?_
  refine .seq ?_
  refine .seq ?_
  refine run_reg ?_
  refine e_end ?_
  refine g_v1 (t := 0) (u := (Enc.enc (a_1 : List (Int × Int)))) (Enc.enc (a_1 : List (Int × Int))) h0 rfl rfl ?_
  refine g_v (.int .i64 (a_1.length : Int)) (ev_len (xs := a_1) rfl) ?_
  refine g_v1 (t := 1) (u := (Enc.enc (b_2 : List (Int × Int)))) (Enc.enc (b_2 : List (Int × Int))) h1 rfl rfl ?_
  refine g_v (.int .i64 (b_2.length : Int)) (ev_len (xs := b_2) rfl) ?_
  refine g_v2 (t1 := 7) (t2 := 9) (u1 := (.int .i64 (a_1.length : Int))) (u2 := (.int .i64 (b_2.length : Int))) (.bool ((a_1.length : Int) != (b_2.length : Int))) rfl rfl rfl rfl ?_
  refine g_end ?_
  refine e_end ?_
  refine renew [(0, (Enc.enc (a_1 : List (Int × Int)))), (1, (Enc.enc (b_2 : List (Int × Int)))), (4, (.bool false)), (10, (.bool ((a_1.length : Int) != (b_2.length : Int))))] ⟨h0, h1, h4, rfl⟩ ?_
  rintro s ⟨h0, h1, h4, h10⟩
  refine .nsq ?_
  refine run_cond (t := ((a_1.length : Int) != (b_2.length : Int))) h10 h (fun h => ?_) (fun h => ?_)
  · refine .seq ?_
    refine run_reg ?_
    refine e_end ?_
    refine g_v0 (.bool false) rfl rfl ?_
    refine g_end ?_
    refine e_end ?_
    refine renew [(0, (Enc.enc (a_1 : List (Int × Int)))), (1, (Enc.enc (b_2 : List (Int × Int)))), (4, (.bool false))] ⟨h0, h1, rfl⟩ ?_
    rintro s ⟨h0, h1, h4⟩
    refine .nsq ?_
    refine .ret ?_
    have hr := Option.some.inj h
    subst hr
    exact rrA (res_tmp h4) rfl
  · refine .skip ?_
    refine .nsq ?_
    refine .seq ?_
    refine .seq ?_
    refine run_reg ?_
    refine e_end ?_
    refine g_v0 (.int .i64 0) rfl rfl ?_
    refine g_end ?_
    refine e_end ?_
    refine renew [(0, (Enc.enc (a_1 : List (Int × Int)))), (1, (Enc.enc (b_2 : List (Int × Int)))), (4, (.bool false)), (5, (.int .i64 0))] ⟨h0, h1, h4, rfl⟩ ?_
    rintro s ⟨h0, h1, h4, h5⟩
    refine .nsq ?_
    refine .block ?_
    refine .loop ?_
    exact t_f53_l1 H a_1 b_2 F 0 _ ⟨h0, h1, h4, h5⟩ h
end
def e53 (F : Nat) : Ent := ⟨53, dn2 (w_eqIntA2S F) (fun (r : Bool) => (Enc.enc (r : Bool))), 0, false⟩
theorem o53 {D : Den} {σ : Sig} {F : Nat} (hF : Fits2 Try.prog D σ) (H : H53 D σ F) : (e53 F).Ok Try.prog := by
  refine ⟨fun args r h => ?_, ⟨Try.f53, Try.func53, rfl, rfl⟩⟩
  obtain ⟨x0, x1, y, rfl, hy, rfl⟩ := dn2_open h
  exact contract_run hF (by kernel_rfl) Try.func53 rfl c53 (show 2 ≤ Try.f53.ntmps by decide) (t53 H x0 x1 _ ⟨rfl, rfl⟩ hy)
/- loop.example/g01109/laws.eqGraph -/
def A20_2 : AC := (AC.cond (O.t 9) (AC.seq (AC.reg [] [(I.mk (some 4) none false (X.v (A.mov (O.k (V.bool false)))))] []) AC.ret) AC.skip)
def A20_4 : AC := (AC.cond (O.t 15) (AC.seq (AC.reg [] [(I.mk (some 4) none false (X.v (A.mov (O.k (V.bool false)))))] []) AC.ret) AC.skip)
def A20_5 : AC := (AC.seq (AC.reg [] [(I.mk (some 4) none false (X.v (A.mov (O.k (V.bool true)))))] []) AC.ret)
def A20_3 : AC := (AC.seq (AC.seq (AC.reg [] [(I.mk (some 10) none false (X.v (A.fld (O.t 2) 1 1))), (I.mk (some 11) none false (X.v (A.load Sh.p (O.t 10)))), (I.mk (some 12) none false (X.v (A.fld (O.t 3) 1 1))), (I.mk (some 13) none false (X.v (A.load Sh.p (O.t 12)))), (I.mk (some 14) none false (X.call (O.k (V.fn 53 [] [])) [(O.t 11), (O.t 13)])), (I.mk (some 15) none false (X.v (A.un UnOp.not (O.t 14))))] []) A20_4) A20_5)
def A20_1 : AC := (AC.seq (AC.seq (AC.reg [] [(I.mk (some 5) none false (X.v (A.fld (O.t 2) 0 0))), (I.mk (some 6) none false (X.v (A.load Sh.s (O.t 5)))), (I.mk (some 7) none false (X.v (A.fld (O.t 3) 0 0))), (I.mk (some 8) none false (X.v (A.load Sh.s (O.t 7)))), (I.mk (some 9) none false (X.v (A.bin BinOp.neq (O.t 6) (O.t 8))))] []) A20_2) A20_3)
def A20 : AC := (AC.seq (AC.reg [.clr [2, 3]] [(I.mk (some 2) none false (X.box (O.t 0))), (I.mk (some 3) none false (X.box (O.t 1))), (I.mk (some 4) none false (X.v (A.mov (O.k (V.bool false)))))] []) A20_1)
def an20 : List An := [{ id := 0, pre := [.clr [2, 3]], ep := [], lin := [], sp := [] }]
theorem c20 : cC Try.prog Try.f20.ntmps an20 (Try.f20.body.getD .skip) = some A20 := by kernel_rfl
structure H20 (D : Den) (σ : Sig) (F : Nat) : Prop where
  c53 : ∀ x0 x1 r, w_eqIntA2S F x0 x1 = some r → D 53 [Enc.enc x0, Enc.enc x1] = some (Enc.enc (r : Bool))
  g53 : σ 53 = some (0, false)
abbrev R20 (r : Bool) : (Nat → V) → Prop := RR Try.prog [.tmp 4] 0 false (Enc.enc (r : Bool))
section
variable {D : Den} {σ : Sig} {F : Nat} {r : Bool}
def w_eqGraph (F : Nat) (a_1 : (Int × (List (Int × Int)))) (b_2 : (Int × (List (Int × Int)))) : Option Bool :=
  bif (a_1.1 != b_2.1) then
    some false
  else
    (w_eqIntA2S F a_1.2 b_2.2).bind fun r_3 =>
    bif (!r_3) then
      some false
    else
      some true
theorem t20 (H : H20 D σ F) (a_1 : (Int × (List (Int × Int)))) (b_2 : (Int × (List (Int × Int)))) (s : Nat → V) (hs : Facts [(0, (.agg [(.int .i64 a_1.1), (Enc.enc (a_1.2 : List (Int × Int)))])), (1, (.agg [(.int .i64 b_2.1), (Enc.enc (b_2.2 : List (Int × Int)))]))] s) (h : w_eqGraph F a_1 b_2 = some r) : Run D σ (R20 r) (.run A20 []) s := by
  unfold w_eqGraph at h
  obtain ⟨h0, h1⟩ := hs
  refine .seq ?_
  refine run_reg ?_
  refine e_clr ?_
  refine e_end ?_
  refine g_box (.agg [(.int .i64 a_1.1), (Enc.enc (a_1.2 : List (Int × Int)))]) (rd_of (keep_clear (s := s) (pk := [2, 3]) h0 rfl (map_agg (maps_cons rfl (maps_cons (Enc.map_enc _ (a_1.2 : List (Int × Int))) maps_nil)))) rfl) (gone_clear (s := s) (pk := [2, 3]) (t := 2) rfl) rfl ?_
  refine g_box (.agg [(.int .i64 b_2.1), (Enc.enc (b_2.2 : List (Int × Int)))]) (rd_of (keep_clear (s := s) (pk := [2, 3]) h1 rfl (map_agg (maps_cons rfl (maps_cons (Enc.map_enc _ (b_2.2 : List (Int × Int))) maps_nil)))) rfl) (gone_clear (s := s) (pk := [2, 3]) (t := 3) rfl) rfl ?_
  refine g_v0 (.bool false) rfl rfl ?_
  refine g_end ?_
  refine e_end ?_
  refine renew [(2, (.ref (.bx 2) 0 [] (.agg [(.int .i64 a_1.1), (Enc.enc (a_1.2 : List (Int × Int)))]))), (3, (.ref (.bx 3) 0 [] (.agg [(.int .i64 b_2.1), (Enc.enc (b_2.2 : List (Int × Int)))]))), (4, (.bool false))] ⟨rfl, rfl, rfl⟩ ?_
  rintro s ⟨h2, h3, h4⟩
  refine .nsq ?_
  refine .seq ?_
  refine .seq ?_
  refine run_reg ?_
  refine e_end ?_
  refine g_v1 (t := 2) (u := (.ref (.bx 2) 0 [] (.agg [(.int .i64 a_1.1), (Enc.enc (a_1.2 : List (Int × Int)))]))) (.ref (.bx 2) 0 [0] (.int .i64 a_1.1)) h2 rfl rfl ?_
  refine g_v1 (t := 5) (u := (.ref (.bx 2) 0 [0] (.int .i64 a_1.1))) (.int .i64 a_1.1) rfl rfl rfl ?_
  refine g_v1 (t := 3) (u := (.ref (.bx 3) 0 [] (.agg [(.int .i64 b_2.1), (Enc.enc (b_2.2 : List (Int × Int)))]))) (.ref (.bx 3) 0 [0] (.int .i64 b_2.1)) h3 rfl rfl ?_
  refine g_v1 (t := 7) (u := (.ref (.bx 3) 0 [0] (.int .i64 b_2.1))) (.int .i64 b_2.1) rfl rfl rfl ?_
  refine g_v2 (t1 := 6) (t2 := 8) (u1 := (.int .i64 a_1.1)) (u2 := (.int .i64 b_2.1)) (.bool (a_1.1 != b_2.1)) rfl rfl rfl rfl ?_
  refine g_end ?_
  refine e_end ?_
  refine renew [(2, (.ref (.bx 2) 0 [] (.agg [(.int .i64 a_1.1), (Enc.enc (a_1.2 : List (Int × Int)))]))), (3, (.ref (.bx 3) 0 [] (.agg [(.int .i64 b_2.1), (Enc.enc (b_2.2 : List (Int × Int)))]))), (4, (.bool false)), (9, (.bool (a_1.1 != b_2.1)))] ⟨h2, h3, h4, rfl⟩ ?_
  rintro s ⟨h2, h3, h4, h9⟩
  refine .nsq ?_
  refine run_cond (t := (a_1.1 != b_2.1)) h9 h (fun h => ?_) (fun h => ?_)
  · refine .seq ?_
    refine run_reg ?_
    refine e_end ?_
    refine g_v0 (.bool false) rfl rfl ?_
    refine g_end ?_
    refine e_end ?_
    refine renew [(2, (.ref (.bx 2) 0 [] (.agg [(.int .i64 a_1.1), (Enc.enc (a_1.2 : List (Int × Int)))]))), (3, (.ref (.bx 3) 0 [] (.agg [(.int .i64 b_2.1), (Enc.enc (b_2.2 : List (Int × Int)))]))), (4, (.bool false))] ⟨h2, h3, rfl⟩ ?_
    rintro s ⟨h2, h3, h4⟩
    refine .nsq ?_
    refine .ret ?_
    have hr := Option.some.inj h
    subst hr
    exact rrA (res_tmp h4) rfl
  · refine .skip ?_
    refine .nsq ?_
    refine .seq ?_
    refine .seq ?_
    refine run_reg ?_
    refine e_end ?_
    refine g_v1 (t := 2) (u := (.ref (.bx 2) 0 [] (.agg [(.int .i64 a_1.1), (Enc.enc (a_1.2 : List (Int × Int)))]))) (.ref (.bx 2) 0 [1] (Enc.enc (a_1.2 : List (Int × Int)))) h2 rfl rfl ?_
    refine g_v1 (t := 10) (u := (.ref (.bx 2) 0 [1] (Enc.enc (a_1.2 : List (Int × Int))))) (Enc.enc (a_1.2 : List (Int × Int))) rfl rfl rfl ?_
    refine g_v1 (t := 3) (u := (.ref (.bx 3) 0 [] (.agg [(.int .i64 b_2.1), (Enc.enc (b_2.2 : List (Int × Int)))]))) (.ref (.bx 3) 0 [1] (Enc.enc (b_2.2 : List (Int × Int)))) h3 rfl rfl ?_
    refine g_v1 (t := 12) (u := (.ref (.bx 3) 0 [1] (Enc.enc (b_2.2 : List (Int × Int))))) (Enc.enc (b_2.2 : List (Int × Int))) rfl rfl rfl ?_
    obtain ⟨r_3, E_r_3, h⟩ := bind_some h
    refine g_call (m := 0) (al := false) (r := (Enc.enc (r_3 : Bool))) [Enc.enc (a_1.2 : (List (Int × Int))), Enc.enc (b_2.2 : (List (Int × Int)))] (ta_cons (v := (Enc.enc (a_1.2 : List (Int × Int)))) rfl rfl (Enc.erase_enc (a_1.2 : (List (Int × Int)))) (ta_cons (v := (Enc.enc (b_2.2 : List (Int × Int)))) rfl rfl (Enc.erase_enc (b_2.2 : (List (Int × Int)))) ta_nil)) (H.c53 _ _ _ E_r_3) H.g53 rfl rfl rfl rfl ?_
    refine g_v1 (t := 14) (u := (.bool r_3)) (.bool (!r_3)) rfl rfl rfl ?_
    refine g_end ?_
    refine e_end ?_
    refine renew [(4, (.bool false)), (15, (.bool (!r_3)))] ⟨h4, rfl⟩ ?_
    rintro s ⟨h4, h15⟩
    refine .nsq ?_
    refine run_cond (t := (!r_3)) h15 h (fun h => ?_) (fun h => ?_)
    · refine .seq ?_
      refine run_reg ?_
      refine e_end ?_
      refine g_v0 (.bool false) rfl rfl ?_
      refine g_end ?_
      refine e_end ?_
      refine renew [(4, (.bool false))] rfl ?_
      rintro s h4
      refine .nsq ?_
      refine .ret ?_
      have hr := Option.some.inj h
      subst hr
      exact rrA (res_tmp h4) rfl
    · refine .skip ?_
      refine .nsq ?_
      refine .seq ?_
      refine run_reg ?_
      refine e_end ?_
      refine g_v0 (.bool true) rfl rfl ?_
      refine g_end ?_
      refine e_end ?_
      refine renew [(4, (.bool true))] rfl ?_
      rintro s h4
      refine .nsq ?_
      refine .ret ?_
      have hr := Option.some.inj h
      subst hr
      exact rrA (res_tmp h4) rfl
end
def e20 (F : Nat) : Ent := ⟨20, dn2 (w_eqGraph F) (fun (r : Bool) => (Enc.enc (r : Bool))), 0, false⟩
theorem o20 {D : Den} {σ : Sig} {F : Nat} (hF : Fits2 Try.prog D σ) (H : H20 D σ F) : (e20 F).Ok Try.prog := by
  refine ⟨fun args r h => ?_, ⟨Try.f20, Try.func20, rfl, rfl⟩⟩
  obtain ⟨x0, x1, y, rfl, hy, rfl⟩ := dn2_open h
  exact contract_run hF (by kernel_rfl) Try.func20 rfl c20 (show 2 ≤ Try.f20.ntmps by decide) (t20 H x0 x1 _ ⟨rfl, rfl⟩ hy)
/- loop.example/g01109/laws.FnExactTreedepthOf -/
def A7_1 : AC := (AC.cond (O.t 34) (AC.seq (AC.reg [] [(I.mk (some 2) none false (X.v (A.mov (O.k (V.bool false)))))] []) AC.ret) AC.skip)
def A7_3 : AC := (AC.cond (O.t 39) (AC.seq (AC.reg [] [(I.mk (some 2) none false (X.v (A.mov (O.k (V.bool false)))))] []) AC.ret) AC.skip)
def A7_4 : AC := (AC.seq (AC.reg [] [(I.mk (some 2) none false (X.v (A.mov (O.k (V.bool true)))))] []) AC.ret)
def A7_2 : AC := (AC.seq (AC.seq (AC.reg [] [(I.mk (some 35) none false (X.v (A.load (Sh.ag [Sh.s, Sh.p]) (O.t 6)))), (I.mk (some 36) none false (X.v (A.load (Sh.ag [Sh.s, Sh.p]) (O.t 1)))), (I.mk (some 37) none false (X.call (O.k (V.fn 17 [] [])) [(O.t 36)])), (I.mk (some 38) none false (X.call (O.k (V.fn 20 [] [])) [(O.t 35), (O.t 37)])), (I.mk (some 39) none false (X.v (A.un UnOp.not (O.t 38))))] []) A7_3) A7_4)
def A7_8 : AC := (AC.cond (O.t 13) (AC.seq (AC.reg [] [(I.mk (some 2) none false (X.v (A.mov (O.k (V.bool true)))))] []) AC.ret) AC.skip)
def A7_12 : AC := (AC.seq (AC.seq (AC.reg [] [(I.mk (some 27) none false (X.v (A.mov (O.t 7)))), (I.mk (some 28) none false (X.v (A.mov (O.t 4)))), (I.mk (some 29) none false (X.v (A.bin BinOp.neq (O.t 27) (O.t 28)))), (I.mk (some 30) none false (X.v (A.mov (O.t 29)))), (I.mk (some 31) (some (30, false)) false (X.v (A.mov (O.t 8)))), (I.mk (some 32) (some (30, false)) false (X.v (A.mov (O.t 5)))), (I.mk (some 33) (some (30, false)) false (X.v (A.beq true (O.t 31) (O.t 32)))), (I.mk (some 34) none false (X.v (A.pick (O.t 30) (O.k (V.bool true)) (O.t 33))))] []) A7_1) A7_2)
def A7_11 : AC := (AC.seq (AC.reg [] [(I.mk (some 23) none false (X.v (A.load (Sh.ag [Sh.s, Sh.p]) (O.t 6)))), (I.mk (some 24) none false (X.call (O.k (V.fn 29 [] [])) [(O.t 23)])), (I.mk (some 22) none false (X.v (A.mov (O.t 24)))), (I.mk (some 25) none false (X.v (A.ext (O.t 22) 0))), (I.mk (some 26) none false (X.v (A.ext (O.t 22) 1))), (I.mk (some 7) none false (X.v (A.mov (O.t 25)))), (I.mk (some 8) none false (X.v (A.mov (O.t 26))))] []) A7_12)
def A7_10 : AC := (AC.seq (AC.reg [.clr [6]] [(I.mk (some 20) none false (X.v (A.load (Sh.ag [Sh.s, Sh.p]) (O.t 1)))), (I.mk (some 21) none false (X.call (O.k (V.fn 17 [] [])) [(O.t 20)])), (I.mk (some 6) none false (X.alloc (V.agg [(V.int IntKind.i64 (Int.ofNat 0)), (V.sl Tok.nl (Sh.ag [Sh.s, Sh.s]) 0 [])]))), (I.mk none none false (X.store (Sh.ag [Sh.s, Sh.p]) (O.t 6) (O.t 21)))] []) A7_11)
def A7_9 : AC := (AC.seq (AC.reg [] [(I.mk (some 15) none false (X.v (A.load (Sh.ag [Sh.s, Sh.p]) (O.t 1)))), (I.mk (some 16) none false (X.call (O.k (V.fn 17 [] [])) [(O.t 15)])), (I.mk (some 17) none false (X.call (O.k (V.fn 28 [] [])) [(O.t 16)])), (I.mk (some 14) none false (X.v (A.mov (O.t 17)))), (I.mk (some 18) none false (X.v (A.ext (O.t 14) 0))), (I.mk (some 19) none false (X.v (A.ext (O.t 14) 1))), (I.mk (some 4) none false (X.v (A.mov (O.t 18)))), (I.mk (some 5) none false (X.v (A.mov (O.t 19))))] []) A7_10)
def A7_7 : AC := (AC.seq (AC.seq (AC.reg [] [(I.mk (some 12) none false (X.v (A.mov (O.t 3)))), (I.mk (some 13) none false (X.v (A.bin BinOp.lss (O.t 12) (O.k (V.int IntKind.i64 (Int.ofNat 0))))))] []) A7_8) A7_9)
def A7_6 : AC := (AC.seq (AC.reg [] [(I.mk (some 9) none false (X.v (A.load (Sh.ag [Sh.s, Sh.p]) (O.t 1)))), (I.mk (some 10) none false (X.v (A.mov (O.t 3)))), (I.mk (some 11) none false (X.call (O.k (V.fn 15 [] [])) [(O.t 9), (O.t 10)])), (I.mk (some 3) none false (X.v (A.mov (O.t 11))))] []) A7_7)
def A7_5 : AC := (AC.seq (AC.reg [] [(I.mk (some 3) none false (X.v (A.mov (O.k (V.int IntKind.i64 (Int.ofNat 1048576))))))] []) A7_6)
def A7 : AC := (AC.seq (AC.reg [.clr [1]] [(I.mk (some 1) none false (X.box (O.t 0))), (I.mk (some 2) none false (X.v (A.mov (O.k (V.bool false)))))] []) A7_5)
def an7 : List An := [{ id := 0, pre := [.clr [1]], ep := [], lin := [], sp := [] }, { id := 6, pre := [.clr [6]], ep := [], lin := [], sp := [] }]
theorem c7 : cC Try.prog Try.f7.ntmps an7 (Try.f7.body.getD .skip) = some A7 := by kernel_rfl
structure H7 (D : Den) (σ : Sig) (F : Nat) : Prop where
  c15 : ∀ x0 x1 r, w_szGraph F x0 x1 = some r → D 15 [Enc.enc x0, Enc.enc x1] = some (Enc.enc (r : Int))
  g15 : σ 15 = some (0, false)
  c17 : ∀ x0 r, w_toGraph F x0 = some r → D 17 [Enc.enc x0] = some (Enc.enc (r : (Int × (List (Int × Int)))))
  g17 : σ 17 = some (0, true)
  c28 : ∀ x0 r, s_TreedepthOf F x0 = some r → D 28 [Enc.enc x0] = some (.tup [Enc.enc (r.1 : Int), Enc.enc (r.2 : Bool)])
  g28 : σ 28 = some (0, false)
  c29 : ∀ x0 r, i_TreedepthOf F x0 = some r → D 29 [Enc.enc x0] = some (.tup [Enc.enc (r.1 : Int), Enc.enc (r.2 : Bool)])
  g29 : σ 29 = some (0, false)
  c20 : ∀ x0 x1 r, w_eqGraph F x0 x1 = some r → D 20 [Enc.enc x0, Enc.enc x1] = some (Enc.enc (r : Bool))
  g20 : σ 20 = some (0, false)
abbrev R7 (r : Bool) : (Nat → V) → Prop := RR Try.prog [.tmp 2] 0 false (Enc.enc (r : Bool))
section
variable {D : Den} {σ : Sig} {F : Nat} {r : Bool}
def w_FnExactTreedepthOf_j1 (F : Nat) (aG_1 : (Int × (List (Int × Int)))) (r_5 : (Int × (List (Int × Int))))  (t34_7 : Bool) : Option Bool :=
  bif t34_7 then
    some false
  else
    (w_toGraph F aG_1).bind fun r_8 =>
    (w_eqGraph F r_5 r_8).bind fun r_9 =>
    bif (!r_9) then
      some false
    else
      some true
theorem t_f7_j1 (H : H7 D σ F) (aG_1 : (Int × (List (Int × Int)))) (r_5 : (Int × (List (Int × Int))))  (t34_7 : Bool) (s : Nat → V) (hs : Facts [(1, (.ref (.bx 1) 0 [] (.agg [(.int .i64 aG_1.1), (Enc.enc (aG_1.2 : List (Int × Int)))]))), (2, (.bool false)), (6, (.ref (.bx 6) 0 [] (.agg [(.int .i64 r_5.1), (Enc.enc (r_5.2 : List (Int × Int)))]))), (34, (.bool t34_7))] s) (h : w_FnExactTreedepthOf_j1 F aG_1 r_5  t34_7 = some r) : Run D σ (R7 r) (.nrm [.sq A7_1, .sq A7_2]) s := by
  unfold w_FnExactTreedepthOf_j1 at h
  obtain ⟨h1, h2, h6, h34⟩ := hs
  refine .nsq ?_
  refine run_cond (t := t34_7) h34 h (fun h => ?_) (fun h => ?_)
  · refine .seq ?_
    refine run_reg ?_
    refine e_end ?_
    refine g_v0 (.bool false) rfl rfl ?_
    refine g_end ?_
    refine e_end ?_
    refine renew [(1, (.ref (.bx 1) 0 [] (.agg [(.int .i64 aG_1.1), (Enc.enc (aG_1.2 : List (Int × Int)))]))), (2, (.bool false)), (6, (.ref (.bx 6) 0 [] (.agg [(.int .i64 r_5.1), (Enc.enc (r_5.2 : List (Int × Int)))])))] ⟨h1, rfl, h6⟩ ?_
    rintro s ⟨h1, h2, h6⟩
    refine .nsq ?_
    refine .ret ?_
    have hr := Option.some.inj h
    subst hr
    exact rrA (res_tmp h2) rfl
  · refine .skip ?_
    refine .nsq ?_
    refine .seq ?_
    refine .seq ?_
    refine run_reg ?_
    refine e_end ?_
    refine g_v1 (t := 6) (u := (.ref (.bx 6) 0 [] (.agg [(.int .i64 r_5.1), (Enc.enc (r_5.2 : List (Int × Int)))]))) (.agg [(.int .i64 r_5.1), (Enc.enc (r_5.2 : List (Int × Int)))]) h6 rfl rfl ?_
    refine g_v1 (t := 1) (u := (.ref (.bx 1) 0 [] (.agg [(.int .i64 aG_1.1), (Enc.enc (aG_1.2 : List (Int × Int)))]))) (.agg [(.int .i64 aG_1.1), (Enc.enc (aG_1.2 : List (Int × Int)))]) h1 rfl rfl ?_
    obtain ⟨r_8, E_r_8, h⟩ := bind_some h
    refine g_call (m := 0) (al := true) (r := (Enc.enc (r_8 : (Int × (List (Int × Int)))))) [Enc.enc (aG_1 : (Int × (List (Int × Int))))] (ta_cons (v := (.agg [(.int .i64 aG_1.1), (Enc.enc (aG_1.2 : List (Int × Int)))])) rfl rfl (Enc.erase_enc (aG_1 : (Int × (List (Int × Int))))) ta_nil) (H.c17 _ _ E_r_8) H.g17 (hal_of (ht_cons (v := (.agg [(.int .i64 aG_1.1), (Enc.enc (aG_1.2 : List (Int × Int)))])) rfl rfl rfl ht_nil)) rfl rfl rfl ?_
    obtain ⟨r_9, E_r_9, h⟩ := bind_some h
    refine g_call (m := 0) (al := false) (r := (Enc.enc (r_9 : Bool))) [Enc.enc (r_5 : (Int × (List (Int × Int)))), Enc.enc (r_8 : (Int × (List (Int × Int))))] (ta_cons (v := (.agg [(.int .i64 r_5.1), (Enc.enc (r_5.2 : List (Int × Int)))])) rfl rfl (Enc.erase_enc (r_5 : (Int × (List (Int × Int))))) (ta_cons (v := (.agg [(.int .i64 r_8.1), (Enc.enc (r_8.2 : List (Int × Int)))])) rfl rfl (Enc.erase_enc (r_8 : (Int × (List (Int × Int))))) ta_nil)) (H.c20 _ _ _ E_r_9) H.g20 rfl rfl rfl rfl ?_
    refine g_v1 (t := 38) (u := (.bool r_9)) (.bool (!r_9)) rfl rfl rfl ?_
    refine g_end ?_
    refine e_end ?_
    refine renew [(2, (.bool false)), (39, (.bool (!r_9)))] ⟨h2, rfl⟩ ?_
    rintro s ⟨h2, h39⟩
    refine .nsq ?_
    refine run_cond (t := (!r_9)) h39 h (fun h => ?_) (fun h => ?_)
    · refine .seq ?_
      refine run_reg ?_
      refine e_end ?_
      refine g_v0 (.bool false) rfl rfl ?_
      refine g_end ?_
      refine e_end ?_
      refine renew [(2, (.bool false))] rfl ?_
      rintro s h2
      refine .nsq ?_
      refine .ret ?_
      have hr := Option.some.inj h
      subst hr
      exact rrA (res_tmp h2) rfl
    · refine .skip ?_
      refine .nsq ?_
      refine .seq ?_
      refine run_reg ?_
      refine e_end ?_
      refine g_v0 (.bool true) rfl rfl ?_
      refine g_end ?_
      refine e_end ?_
      refine renew [(2, (.bool true))] rfl ?_
      rintro s h2
      refine .nsq ?_
      refine .ret ?_
      have hr := Option.some.inj h
      subst hr
      exact rrA (res_tmp h2) rfl
def w_FnExactTreedepthOf (F : Nat) (aG_1 : (Int × (List (Int × Int)))) : Option Bool :=
  (w_szGraph F aG_1 1048576).bind fun r_2 =>
  bif decide (r_2 < 0) then
    some true
  else
    (w_toGraph F aG_1).bind fun r_3 =>
    (s_TreedepthOf F r_3).bind fun r_4 =>
    (w_toGraph F aG_1).bind fun r_5 =>
    (i_TreedepthOf F r_5).bind fun r_6 =>
    bif (r_6.1 != r_4.1) then
      w_FnExactTreedepthOf_j1 F aG_1 r_5 true
    else
      w_FnExactTreedepthOf_j1 F aG_1 r_5 (r_6.2 != r_4.2)
theorem t7 (H : H7 D σ F) (aG_1 : (Int × (List (Int × Int)))) (s : Nat → V) (hs : Facts [(0, (.agg [(.int .i64 aG_1.1), (Enc.enc (aG_1.2 : List (Int × Int)))]))] s) (h : w_FnExactTreedepthOf F aG_1 = some r) : Run D σ (R7 r) (.run A7 []) s := by
  unfold w_FnExactTreedepthOf at h
  have h0 := hs
  refine .seq ?_
  refine run_reg ?_
  refine e_clr ?_
  refine e_end ?_
  refine g_box (.agg [(.int .i64 aG_1.1), (Enc.enc (aG_1.2 : List (Int × Int)))]) (rd_of (keep_clear (s := s) (pk := [1]) h0 rfl (map_agg (maps_cons rfl (maps_cons (Enc.map_enc _ (aG_1.2 : List (Int × Int))) maps_nil)))) rfl) (gone_clear (s := s) (pk := [1]) (t := 1) rfl) rfl ?_
  refine g_v0 (.bool false) rfl rfl ?_
  refine g_end ?_
  refine e_end ?_
  refine renew [(1, (.ref (.bx 1) 0 [] (.agg [(.int .i64 aG_1.1), (Enc.enc (aG_1.2 : List (Int × Int)))]))), (2, (.bool false))] ⟨rfl, rfl⟩ ?_
  rintro s ⟨h1, h2⟩
  refine .nsq ?_
  refine .seq ?_
  refine run_reg ?_
  refine e_end ?_
  refine g_v0 (.int .i64 1048576) rfl rfl ?_
  refine g_end ?_
  refine e_end ?_
  refine renew [(1, (.ref (.bx 1) 0 [] (.agg [(.int .i64 aG_1.1), (Enc.enc (aG_1.2 : List (Int × Int)))]))), (2, (.bool false)), (3, (.int .i64 1048576))] ⟨h1, h2, rfl⟩ ?_
  rintro s ⟨h1, h2, h3⟩
  refine .nsq ?_
  refine .seq ?_
  refine run_reg ?_
  refine e_end ?_
  refine g_v1 (t := 1) (u := (.ref (.bx 1) 0 [] (.agg [(.int .i64 aG_1.1), (Enc.enc (aG_1.2 : List (Int × Int)))]))) (.agg [(.int .i64 aG_1.1), (Enc.enc (aG_1.2 : List (Int × Int)))]) h1 rfl rfl ?_
  refine g_v1 (t := 3) (u := (.int .i64 1048576)) (.int .i64 1048576) h3 rfl rfl ?_
  obtain ⟨r_2, E_r_2, h⟩ := bind_some h
  refine g_call (m := 0) (al := false) (r := (Enc.enc (r_2 : Int))) [Enc.enc (aG_1 : (Int × (List (Int × Int)))), Enc.enc (1048576 : Int)] (ta_cons (v := (.agg [(.int .i64 aG_1.1), (Enc.enc (aG_1.2 : List (Int × Int)))])) rfl rfl (Enc.erase_enc (aG_1 : (Int × (List (Int × Int))))) (ta_cons (v := (.int .i64 1048576)) rfl rfl rfl ta_nil)) (H.c15 _ _ _ E_r_2) H.g15 rfl rfl rfl rfl ?_
  refine g_v1 (t := 11) (u := (.int .i64 r_2)) (.int .i64 r_2) rfl rfl rfl ?_
  refine g_end ?_
  refine e_end ?_
  refine renew [(1, (.ref (.bx 1) 0 [] (.agg [(.int .i64 aG_1.1), (Enc.enc (aG_1.2 : List (Int × Int)))]))), (2, (.bool false)), (3, (.int .i64 r_2))] ⟨h1, h2, rfl⟩ ?_
  rintro s ⟨h1, h2, h3⟩
  refine .nsq ?_
  refine .seq ?_
  refine .seq ?_
  refine run_reg ?_
  refine e_end ?_
  refine g_v1 (t := 3) (u := (.int .i64 r_2)) (.int .i64 r_2) h3 rfl rfl ?_
  refine g_v1 (t := 12) (u := (.int .i64 r_2)) (.bool (decide (r_2 < 0))) rfl rfl rfl ?_
  refine g_end ?_
  refine e_end ?_
  refine renew [(1, (.ref (.bx 1) 0 [] (.agg [(.int .i64 aG_1.1), (Enc.enc (aG_1.2 : List (Int × Int)))]))), (2, (.bool false)), (13, (.bool (decide (r_2 < 0))))] ⟨h1, h2, rfl⟩ ?_
  rintro s ⟨h1, h2, h13⟩
  refine .nsq ?_
  refine run_cond (t := decide (r_2 < 0)) h13 h (fun h => ?_) (fun h => ?_)
  · refine .seq ?_
    refine run_reg ?_
    refine e_end ?_
    refine g_v0 (.bool true) rfl rfl ?_
    refine g_end ?_
    refine e_end ?_
    refine renew [(1, (.ref (.bx 1) 0 [] (.agg [(.int .i64 aG_1.1), (Enc.enc (aG_1.2 : List (Int × Int)))]))), (2, (.bool true))] ⟨h1, rfl⟩ ?_
    rintro s ⟨h1, h2⟩
    refine .nsq ?_
    refine .ret ?_
    have hr := Option.some.inj h
    subst hr
    exact rrA (res_tmp h2) rfl
  · refine .skip ?_
    refine .nsq ?_
    refine .seq ?_
    refine run_reg ?_
    refine e_end ?_
    refine g_v1 (t := 1) (u := (.ref (.bx 1) 0 [] (.agg [(.int .i64 aG_1.1), (Enc.enc (aG_1.2 : List (Int × Int)))]))) (.agg [(.int .i64 aG_1.1), (Enc.enc (aG_1.2 : List (Int × Int)))]) h1 rfl rfl ?_
    obtain ⟨r_3, E_r_3, h⟩ := bind_some h
    refine g_call (m := 0) (al := true) (r := (Enc.enc (r_3 : (Int × (List (Int × Int)))))) [Enc.enc (aG_1 : (Int × (List (Int × Int))))] (ta_cons (v := (.agg [(.int .i64 aG_1.1), (Enc.enc (aG_1.2 : List (Int × Int)))])) rfl rfl (Enc.erase_enc (aG_1 : (Int × (List (Int × Int))))) ta_nil) (H.c17 _ _ E_r_3) H.g17 (hal_of (ht_cons (v := (.agg [(.int .i64 aG_1.1), (Enc.enc (aG_1.2 : List (Int × Int)))])) rfl rfl rfl ht_nil)) rfl rfl rfl ?_
    obtain ⟨r_4, E_r_4, h⟩ := bind_some h
    refine g_call (m := 0) (al := false) (r := (.tup [Enc.enc (r_4.1 : Int), Enc.enc (r_4.2 : Bool)])) [Enc.enc (r_3 : (Int × (List (Int × Int))))] (ta_cons (v := (.agg [(.int .i64 r_3.1), (Enc.enc (r_3.2 : List (Int × Int)))])) rfl rfl (Enc.erase_enc (r_3 : (Int × (List (Int × Int))))) ta_nil) (H.c28 _ _ E_r_4) H.g28 rfl rfl rfl rfl ?_
    refine g_v1 (t := 17) (u := (.tup [(.int .i64 r_4.1), (.bool r_4.2)])) (.tup [(.int .i64 r_4.1), (.bool r_4.2)]) rfl rfl rfl ?_
    refine g_v1 (t := 14) (u := (.tup [(.int .i64 r_4.1), (.bool r_4.2)])) (.int .i64 r_4.1) rfl rfl rfl ?_
    refine g_v1 (t := 14) (u := (.tup [(.int .i64 r_4.1), (.bool r_4.2)])) (.bool r_4.2) rfl rfl rfl ?_
    refine g_v1 (t := 18) (u := (.int .i64 r_4.1)) (.int .i64 r_4.1) rfl rfl rfl ?_
    refine g_v1 (t := 19) (u := (.bool r_4.2)) (.bool r_4.2) rfl rfl rfl ?_
    refine g_end ?_
    refine e_end ?_
    refine renew [(1, (.ref (.bx 1) 0 [] (.agg [(.int .i64 aG_1.1), (Enc.enc (aG_1.2 : List (Int × Int)))]))), (2, (.bool false)), (4, (.int .i64 r_4.1)), (5, (.bool r_4.2))] ⟨h1, h2, rfl, rfl⟩ ?_
    rintro s ⟨h1, h2, h4, h5⟩
    refine .nsq ?_
    refine .seq ?_
    refine run_reg ?_
    refine e_clr ?_
    refine e_end ?_
    refine g_v1 (t := 1) (u := (.ref (.bx 1) 0 [] (.agg [(.int .i64 aG_1.1), (Enc.enc (aG_1.2 : List (Int × Int)))]))) (.agg [(.int .i64 aG_1.1), (Enc.enc (aG_1.2 : List (Int × Int)))]) (keep_clear (s := s) (pk := [6]) h1 rfl (map_bx rfl (map_agg (maps_cons rfl (maps_cons (Enc.map_enc _ (aG_1.2 : List (Int × Int))) maps_nil))))) rfl rfl ?_
    obtain ⟨r_5, E_r_5, h⟩ := bind_some h
    refine g_call (m := 0) (al := true) (r := (Enc.enc (r_5 : (Int × (List (Int × Int)))))) [Enc.enc (aG_1 : (Int × (List (Int × Int))))] (ta_cons (v := (.agg [(.int .i64 aG_1.1), (Enc.enc (aG_1.2 : List (Int × Int)))])) rfl rfl (Enc.erase_enc (aG_1 : (Int × (List (Int × Int))))) ta_nil) (H.c17 _ _ E_r_5) H.g17 (hal_of (ht_cons (v := (.agg [(.int .i64 aG_1.1), (Enc.enc (aG_1.2 : List (Int × Int)))])) rfl rfl rfl ht_nil)) rfl rfl rfl ?_
    refine g_alloc (gone_clear (s := s) (pk := [6]) (t := 6) rfl) ?_
    refine g_store (.agg [(.int .i64 r_5.1), (Enc.enc (r_5.2 : List (Int × Int)))]) (rd_of rfl rfl) (rd_of rfl rfl) (by refine ⟨by decide, by decide, rfl, rfl, rfl, ?_⟩; first | rfl | simp [V.toks, V.tokss, Enc.toks_enc]) ?_
    refine g_end ?_
    refine e_end ?_
    refine renew [(1, (.ref (.bx 1) 0 [] (.agg [(.int .i64 aG_1.1), (Enc.enc (aG_1.2 : List (Int × Int)))]))), (2, (.bool false)), (4, (.int .i64 r_4.1)), (5, (.bool r_4.2)), (6, (.ref (.bx 6) 0 [] (.agg [(.int .i64 r_5.1), (Enc.enc (r_5.2 : List (Int × Int)))])))] ⟨(keep_mut (keep_clear (s := s) (pk := [6]) h1 rfl (map_bx rfl (map_agg (maps_cons rfl (maps_cons (Enc.map_enc _ (aG_1.2 : List (Int × Int))) maps_nil))))) (mut_ref_ne rfl rfl (mut_agg (muts_cons rfl (muts_cons (Enc.mut_enc _ _ _ _ (aG_1.2 : List (Int × Int))) rfl))))), (keep_mut (keep_clear (s := s) (pk := [6]) h2 rfl rfl) rfl), (keep_mut (keep_clear (s := s) (pk := [6]) h4 rfl rfl) rfl), (keep_mut (keep_clear (s := s) (pk := [6]) h5 rfl rfl) rfl), (keep_mut rfl rfl)⟩ ?_
    rintro s ⟨h1, h2, h4, h5, h6⟩
    refine .nsq ?_
    refine .seq ?_
    refine run_reg ?_
    refine e_end ?_
    refine g_v1 (t := 6) (u := (.ref (.bx 6) 0 [] (.agg [(.int .i64 r_5.1), (Enc.enc (r_5.2 : List (Int × Int)))]))) (.agg [(.int .i64 r_5.1), (Enc.enc (r_5.2 : List (Int × Int)))]) h6 rfl rfl ?_
    obtain ⟨r_6, E_r_6, h⟩ := bind_some h
    refine g_call (m := 0) (al := false) (r := (.tup [Enc.enc (r_6.1 : Int), Enc.enc (r_6.2 : Bool)])) [Enc.enc (r_5 : (Int × (List (Int × Int))))] (ta_cons (v := (.agg [(.int .i64 r_5.1), (Enc.enc (r_5.2 : List (Int × Int)))])) rfl rfl (Enc.erase_enc (r_5 : (Int × (List (Int × Int))))) ta_nil) (H.c29 _ _ E_r_6) H.g29 rfl rfl rfl rfl ?_
    refine g_v1 (t := 24) (u := (.tup [(.int .i64 r_6.1), (.bool r_6.2)])) (.tup [(.int .i64 r_6.1), (.bool r_6.2)]) rfl rfl rfl ?_
    refine g_v1 (t := 22) (u := (.tup [(.int .i64 r_6.1), (.bool r_6.2)])) (.int .i64 r_6.1) rfl rfl rfl ?_
    refine g_v1 (t := 22) (u := (.tup [(.int .i64 r_6.1), (.bool r_6.2)])) (.bool r_6.2) rfl rfl rfl ?_
    refine g_v1 (t := 25) (u := (.int .i64 r_6.1)) (.int .i64 r_6.1) rfl rfl rfl ?_
    refine g_v1 (t := 26) (u := (.bool r_6.2)) (.bool r_6.2) rfl rfl rfl ?_
    refine g_end ?_
    refine e_end ?_
    refine renew [(1, (.ref (.bx 1) 0 [] (.agg [(.int .i64 aG_1.1), (Enc.enc (aG_1.2 : List (Int × Int)))]))), (2, (.bool false)), (4, (.int .i64 r_4.1)), (5, (.bool r_4.2)), (6, (.ref (.bx 6) 0 [] (.agg [(.int .i64 r_5.1), (Enc.enc (r_5.2 : List (Int × Int)))]))), (7, (.int .i64 r_6.1)), (8, (.bool r_6.2))] ⟨h1, h2, h4, h5, h6, rfl, rfl⟩ ?_
    rintro s ⟨h1, h2, h4, h5, h6, h7, h8⟩
    refine .nsq ?_
    refine .seq ?_
    refine .seq ?_
    refine run_reg ?_
    refine e_end ?_
    refine g_v1 (t := 7) (u := (.int .i64 r_6.1)) (.int .i64 r_6.1) h7 rfl rfl ?_
    refine g_v1 (t := 4) (u := (.int .i64 r_4.1)) (.int .i64 r_4.1) h4 rfl rfl ?_
    refine g_v2 (t1 := 27) (t2 := 28) (u1 := (.int .i64 r_6.1)) (u2 := (.int .i64 r_4.1)) (.bool (r_6.1 != r_4.1)) rfl rfl rfl rfl ?_
    refine g_v1 (t := 29) (u := (.bool (r_6.1 != r_4.1))) (.bool (r_6.1 != r_4.1)) rfl rfl rfl ?_
    refine split_on (c := (r_6.1 != r_4.1)) h (fun hg4 h => ?_) (fun hg4 h => ?_)
    · refine g_no (Eq.trans (b := .bool (r_6.1 != r_4.1)) rfl (congrArg V.bool hg4)) ?_
      refine g_no (Eq.trans (b := .bool (r_6.1 != r_4.1)) rfl (congrArg V.bool hg4)) ?_
      refine g_no (Eq.trans (b := .bool (r_6.1 != r_4.1)) rfl (congrArg V.bool hg4)) ?_
      refine g_v2 (t1 := 30) (t2 := 33) (u1 := (.bool true)) (u2 := (.tup [])) (.bool true) (Eq.trans (b := .bool (r_6.1 != r_4.1)) rfl (congrArg V.bool hg4)) rfl rfl rfl ?_
      refine g_end ?_
      refine e_end ?_
      refine renew [(1, (.ref (.bx 1) 0 [] (.agg [(.int .i64 aG_1.1), (Enc.enc (aG_1.2 : List (Int × Int)))]))), (2, (.bool false)), (6, (.ref (.bx 6) 0 [] (.agg [(.int .i64 r_5.1), (Enc.enc (r_5.2 : List (Int × Int)))]))), (34, (.bool true))] ⟨h1, h2, h6, rfl⟩ ?_
      rintro s ⟨h1, h2, h6, h34⟩
      exact t_f7_j1 H aG_1 r_5 true _ ⟨h1, h2, h6, h34⟩ h
    · refine g_yes (Eq.trans (b := .bool (r_6.1 != r_4.1)) rfl (congrArg V.bool hg4)) (g_v1 (t := 8) (u := (.bool r_6.2)) (.bool r_6.2) h8 rfl rfl ?_)
      refine g_yes (Eq.trans (b := .bool (r_6.1 != r_4.1)) rfl (congrArg V.bool hg4)) (g_v1 (t := 5) (u := (.bool r_4.2)) (.bool r_4.2) h5 rfl rfl ?_)
      refine g_yes (Eq.trans (b := .bool (r_6.1 != r_4.1)) rfl (congrArg V.bool hg4)) (g_v2 (t1 := 31) (t2 := 32) (u1 := (.bool r_6.2)) (u2 := (.bool r_4.2)) (.bool (r_6.2 != r_4.2)) rfl rfl rfl rfl ?_)
      refine g_v2 (t1 := 30) (t2 := 33) (u1 := (.bool false)) (u2 := (.bool (r_6.2 != r_4.2))) (.bool (r_6.2 != r_4.2)) (Eq.trans (b := .bool (r_6.1 != r_4.1)) rfl (congrArg V.bool hg4)) rfl rfl rfl ?_
      refine g_end ?_
      refine e_end ?_
      refine renew [(1, (.ref (.bx 1) 0 [] (.agg [(.int .i64 aG_1.1), (Enc.enc (aG_1.2 : List (Int × Int)))]))), (2, (.bool false)), (6, (.ref (.bx 6) 0 [] (.agg [(.int .i64 r_5.1), (Enc.enc (r_5.2 : List (Int × Int)))]))), (34, (.bool (r_6.2 != r_4.2)))] ⟨h1, h2, h6, rfl⟩ ?_
      rintro s ⟨h1, h2, h6, h34⟩
      exact t_f7_j1 H aG_1 r_5 (r_6.2 != r_4.2) _ ⟨h1, h2, h6, h34⟩ h
end
def e7 (F : Nat) : Ent := ⟨7, dn1 (w_FnExactTreedepthOf F) (fun (r : Bool) => (Enc.enc (r : Bool))), 0, false⟩
theorem o7 {D : Den} {σ : Sig} {F : Nat} (hF : Fits2 Try.prog D σ) (H : H7 D σ F) : (e7 F).Ok Try.prog := by
  refine ⟨fun args r h => ?_, ⟨Try.f7, Try.func7, rfl, rfl⟩⟩
  obtain ⟨x0, y, rfl, hy, rfl⟩ := dn1_open h
  exact contract_run hF (by kernel_rfl) Try.func7 rfl c7 (show 1 ≤ Try.f7.ntmps by decide) (t7 H x0 _ rfl hy)
end Go.Zq
