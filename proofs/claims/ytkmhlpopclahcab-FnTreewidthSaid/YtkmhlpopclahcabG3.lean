/- Functions of the program as typed functions, and that the machine runs as they say (part 3). No further condition. -/
import Derived.Test.YtkmhlpopclahcabK4
import Derived.Test.YtkmhlpopclahcabKC
import Derived.Test.YtkmhlpopclahcabProg
import Derived.Test.YtkmhlpopclahcabChecked
import Derived.KernelRfl
import Derived.Test.YtkmhlpopclahcabG2
set_option linter.unusedVariables false
set_option linter.unusedSimpArgs false
namespace Go.Zq
open Go.Proofs Go.Shelf
def zqD:AC:=(.cond (.t 17) .skip (.exit 0))
def zrX:AC:=(.cond (.t 27) .skip (.exit 2))
def zlO:AC:=(.cond (.t 32) (.exit 3) .skip)
def zhE:AC:=(.cond (.t 52) (.reg [] [jm 53 8,jm 6 53] []) .skip)
def znk:AC:=(.seq (.reg [] [jm 46 6,jv 47 (.bin .lss (.t 46) (jn 0)),jm 48 47,jg 49 48 false (.mov (.t 8)),jg 50 48 false (.mov (.t 6)),jg 51 48 false (.bin .lss (.t 49) (.t 50)),jv 52 (.pick (.t 48) kt (.t 51))] []) zhE)
def zml:AC:=(.seq (.reg [.clr [36]] [jv 33 (.load (.ag [.s,.p]) (.t 1)),jm 34 5,jm 35 7,jx 36 (.callO (jf 53) [.t 33,.t 34,.t 35]),jv 37 (.len (.t 36)),jm 38 3,jm 39 4,jm 40 7,jv 41 (.bin .shl (jn 1) (.t 40)),jv 42 (.bin .add (.t 39) (.t 41)),jv 43 (.idx (.t 38) (.t 42) 1),jv 44 (.load .s (.t 43)),jx 45 (.call (jf 39) [.t 37,.t 44]),jm 8 45] []) znk)
def zcK:AC:=(.reg [] [jm 28 7,jv 29 (.bin .add (.t 28) (jn 1)),jm 7 29] [])
def zrv:AC:=(.seq (.block 3 (.seq (.seq (.reg [] [jm 30 5,jm 31 7,jx 32 (.call (jf 52) [.t 30,.t 31])] []) zlO) zml)) zcK)
def JW:AC:=(.seq (.seq (.reg [] [jm 24 7,jv 25 (.fld (.t 1) 0 0),jv 26 (.load .s (.t 25)),jv 27 (.bin .lss (.t 24) (.t 26))] []) zrX) zrv)
def zpp:AC:=(.block 2 (.loop JW))
def Kn:AC:=(.reg [] [jm 54 3,jm 55 4,jm 56 6,jv 57 (.idx (.t 54) (.t 55) 1),jz (.store .s (.t 57) (.t 56))] [])
def zqW:AC:=(.seq (.seq (.reg [] [jv 7 (.mov (jn 0))] []) zpp) Kn)
def zqn:AC:=(.seq (.reg [] [jv 6 (.mov (jn (-1)))] []) zqW)
def Kg:AC:=(.reg [] [jm 18 4,jv 19 (.bin .sub (.t 18) (jn 1)),jm 4 19] [])
def zn1:AC:=(.seq (.block 1 (.seq (.reg [] [jv 20 (.fld (.t 1) 0 0),jv 21 (.load .s (.t 20)),jm 22 4,jx 23 (.call (jf 32) [.t 21,.t 22]),jm 5 23] []) zqn)) Kg)
def X3:AC:=(.seq (.seq (.reg [] [jm 16 4,jv 17 (.bin .geq (.t 16) (jn 0))] []) zqD) zn1)
def Wb:AC:=(.seq (.reg [] [jm 58 3,jm 2 58] [.home 3 2]) .ret)
def zlz:AC:=(.block 0 (.loop X3))
def zl3:AC:=(.seq (.seq (.reg [] [jm 13 3,jv 14 (.len (.t 13)),jv 15 (.bin .sub (.t 14) (jn 1)),jm 4 15] []) zlz) Wb)
def zmm:AC:=(.seq (.reg [.clr [12]] [jv 9 (.fld (.t 1) 0 0),jv 10 (.load .s (.t 9)),jv 11 (.bin .shl (jn 1) (.t 10)),jx 12 (.mk (.t 11) i0 i0),jm 3 12] [.home 12 3]) zl3)
def A49:AC:=(.seq (.reg [.clr [1]] [jx 1 (.box (.t 0)),jv 2 (.mov (.k (.sl .nl .s 0 [])))] []) zmm)
def zue:List An:=[⟨0,[.clr [1]],[],[],[]⟩,⟨1,[.clr [12]],[],[],[.home 12 3]⟩,⟨11,[.clr [36]],[],[1003],[]⟩,⟨15,[],[],[],[.home 3 2]⟩]
theorem c49:cC Try.prog Try.f49.ntmps zue (Try.f49.body.getD .skip)=some A49:=by kernel_rfl
structure H49 (D:Den) (σ:Sig) (F:Nat):Prop where
 c32:C32 (D 32) F
 g32:σ 32=some (0,false)
 c52:C52 (D 52) F
 g52:σ 52=some (0,false)
 c53o:zl9 (D 1000000053) F
 g53o:σ 1000000053=some (1,false)
 c39:C39 (D 39) F
 g39:σ 39=some (0,false)
abbrev R49 (r:LI):(Nat→V)→Prop:=RR Try.prog [.tmp 2] 0 false (eL r)
section
variable {D:Den} {σ:Sig} {F:Nat} {r:LI}
def Yg (F:Nat) (x_1:GR) (x_29:LI) (x_30:Int) (r_56:LI) (x_65:Int) (c1:LI→Int→Option LI) (c4:Int→Int→Option LI) (x_79:Int):Option LI:=
 c4 x_79 (w64 (x_65 + 1))
theorem zb1 (H:H49 D σ F) (x_1:GR) (x_29:LI) (x_30:Int) (r_56:LI) (x_65:Int) (c1:LI→Int→Option LI) (Hc1:∀ (x_29:LI) (x_30:Int) (s:Nat→V),zl [(1,bG 1 x_1),(2,nI),(3,oI 3 [] (.of x_29)),(4,ji x_30)] s→c1 x_29 x_30=some r→Run D σ (R49 r) (.run X3 [.lp X3,.bk 0,.sq Wb]) s) (c4:Int→Int→Option LI) (Hc4:∀ (x_64:Int) (x_65:Int) (s:Nat→V),zl [(1,bG 1 x_1),(2,nI),(3,oI 3 [] (.of x_29)),(4,ji x_30),(5,eL r_56),(6,ji x_64),(7,ji x_65)] s→c4 x_64 x_65=some r→Run D σ (R49 r) (.run JW [.lp JW,.bk 2,.sq Kn,.bk 1,.sq Kg,.lp X3,.bk 0,.sq Wb]) s) (x_79:Int) (s:Nat→V) (hs:zl [(1,bG 1 x_1),(2,nI),(3,oI 3 [] (.of x_29)),(4,ji x_30),(5,eL r_56),(6,ji x_79),(7,ji x_65)] s) (h:Yg F x_1 x_29 x_30 r_56 x_65 c1 c4 x_79=some r):Run D σ (R49 r) (.nrm [.bk 3,.sq zcK,.lp JW,.bk 2,.sq Kn,.bk 1,.sq Kg,.lp X3,.bk 0,.sq Wb]) s:=by
 unfold Yg at h
 obtain ⟨h1,h2,h3,h4,h5,h6,h7⟩:=hs
 refine .nbk (.nsq (rg (gm h7 fun h28=>g1 28 (ji (w64 (x_65 + 1))) h28 fun h29=>gm h29 fun h7=>gq (.nlp ?_))))
 exact Hc4 x_79 (w64 (x_65 + 1)) _ ⟨h1,h2,h3,h4,h5,h6,h7⟩ h
def Z3 (F:Nat) (x_1:GR) (x_29:LI) (x_30:Int) (r_56:LI) (x_64:Int) (x_65:Int) (r_77:Int) (c1:LI→Int→Option LI) (c4:Int→Int→Option LI) (x_78:Bool):Option LI:=
 bif x_78 then
  Yg F x_1 x_29 x_30 r_56 x_65 c1 c4 r_77
 else
  Yg F x_1 x_29 x_30 r_56 x_65 c1 c4 x_64
theorem zcw (H:H49 D σ F) (x_1:GR) (x_29:LI) (x_30:Int) (r_56:LI) (x_64:Int) (x_65:Int) (r_77:Int) (c1:LI→Int→Option LI) (Hc1:∀ (x_29:LI) (x_30:Int) (s:Nat→V),zl [(1,bG 1 x_1),(2,nI),(3,oI 3 [] (.of x_29)),(4,ji x_30)] s→c1 x_29 x_30=some r→Run D σ (R49 r) (.run X3 [.lp X3,.bk 0,.sq Wb]) s) (c4:Int→Int→Option LI) (Hc4:∀ (x_64:Int) (x_65:Int) (s:Nat→V),zl [(1,bG 1 x_1),(2,nI),(3,oI 3 [] (.of x_29)),(4,ji x_30),(5,eL r_56),(6,ji x_64),(7,ji x_65)] s→c4 x_64 x_65=some r→Run D σ (R49 r) (.run JW [.lp JW,.bk 2,.sq Kn,.bk 1,.sq Kg,.lp X3,.bk 0,.sq Wb]) s) (x_78:Bool) (s:Nat→V) (hs:zl [(1,bG 1 x_1),(2,nI),(3,oI 3 [] (.of x_29)),(4,ji x_30),(5,eL r_56),(6,ji x_64),(7,ji x_65),(8,ji r_77),(52,jb x_78)] s) (h:Z3 F x_1 x_29 x_30 r_56 x_64 x_65 r_77 c1 c4 x_78=some r):Run D σ (R49 r) (.nrm [.sq zhE,.bk 3,.sq zcK,.lp JW,.bk 2,.sq Kn,.bk 1,.sq Kg,.lp X3,.bk 0,.sq Wb]) s:=by
 unfold Z3 at h
 obtain ⟨h1,h2,h3,h4,h5,h6,h7,h8,h52⟩:=hs
 refine .nsq (zk (t:=x_78) h52 h (fun h=>?_) (fun h=>?_))
 · refine rg (gm h8 fun h53=>gm h53 fun h6=>gq ?_)
   exact zb1 H x_1 x_29 x_30 r_56 x_65 c1 Hc1 c4 Hc4 r_77 _ ⟨h1,h2,h3,h4,h5,h6,h7⟩ h
 refine .skip ?_
 exact zb1 H x_1 x_29 x_30 r_56 x_65 c1 Hc1 c4 Hc4 x_64 _ ⟨h1,h2,h3,h4,h5,h6,h7⟩ h
def xZ (F:Nat) (x_1:GR) (x_29:LI) (x_30:Int) (r_56:LI) (c1:LI→Int→Option LI):Nat→Int→Int→Option LI
 | 0,_,_=>none
 | k + 1,x_64,x_65=>
   bif decide (x_65 < x_1.1) then
    (wC F r_56 x_65).bind fun r_73=>
    bif r_73 then
     (xZ F x_1 x_29 x_30 r_56 c1 k) x_64 (w64 (x_65 + 1))
    else
     (vC F x_1 r_56 x_65).bind fun r_74=>
     (vR .i64 1 x_65).bind fun q_75=>
     (idx x_29 (w64 (x_30 + q_75))).bind fun e_76=>
     (Zo F (r_74.list.length:Int) e_76).bind fun r_77=>
     bif decide (x_64 < 0) then
      Z3 F x_1 x_29 x_30 r_56 x_64 x_65 r_77 c1 (xZ F x_1 x_29 x_30 r_56 c1 k) true
     else
      Z3 F x_1 x_29 x_30 r_56 x_64 x_65 r_77 c1 (xZ F x_1 x_29 x_30 r_56 c1 k) (decide (r_77 < x_64))
   else
    (idx x_29 x_30).bind fun e_80=>
    c1 (x_29.set x_30.toNat x_64) (w64 (x_30 - 1))
theorem zgQ (H:H49 D σ F) (x_1:GR) (x_29:LI) (x_30:Int) (r_56:LI) (c1:LI→Int→Option LI) (Hc1:∀ (x_29:LI) (x_30:Int) (s:Nat→V),zl [(1,bG 1 x_1),(2,nI),(3,oI 3 [] (.of x_29)),(4,ji x_30)] s→c1 x_29 x_30=some r→Run D σ (R49 r) (.run X3 [.lp X3,.bk 0,.sq Wb]) s):∀ (k:Nat) (x_64:Int) (x_65:Int) (s:Nat→V),zl [(1,bG 1 x_1),(2,nI),(3,oI 3 [] (.of x_29)),(4,ji x_30),(5,eL r_56),(6,ji x_64),(7,ji x_65)] s→xZ F x_1 x_29 x_30 r_56 c1 k x_64 x_65=some r→Run D σ (R49 r) (.run JW [.lp JW,.bk 2,.sq Kn,.bk 1,.sq Kg,.lp X3,.bk 0,.sq Wb]) s:=by
 intro k
 induction k with
 | zero=>intro x_64 x_65 s _ h;exact nm h
 | succ k ih=>
   intro x_64 x_65 s hs h
   rw [xZ] at h
   obtain ⟨h1,h2,h3,h4,h5,h6,h7⟩:=hs
   refine .seq (.seq (rg (gm h7 fun h24=>g1 1 (.ref (.bx 1) 0 [0] (ji x_1.1)) h1 fun h25=>g1 25 (ji x_1.1) h25 fun h26=>g2 24 26 (jb (decide (x_65 < x_1.1))) h24 h26 fun h27=>gq (.nsq (zk (t:=decide (x_65 < x_1.1)) h27 h (fun h=>?_) (fun h=>?_))))))
   · refine .skip (.nsq (.seq (.block (.seq (.seq (rg (gm h5 fun h30=>gm h7 fun h31=>?_)))))))
     obtain ⟨r_73,E_r_73,h⟩:=bind_some h
     refine zF (m:=0) (al:=false) (r:=Enc.enc (r_73:Bool)) [eL r_56,Enc.enc (x_65:Int)] (ze (v:=eL r_56) h30 rfl (Enc.erase_enc (r_56:LI)) (ze (v:=ji x_65) h31 rfl rfl zx)) (H.c52 _ _ _ E_r_73) H.g52 rfl rfl rfl rfl (gq (.nsq (zk (t:=r_73) rfl h (fun h=>?_) (fun h=>?_))))
     · refine .exit (.esq (.ebk (.nsq (rg (gm h7 fun h28=>g1 28 (ji (w64 (x_65 + 1))) h28 fun h29=>gm h29 fun h7=>gq (.nlp ?_))))))
       exact ih x_64 (w64 (x_65 + 1)) _ ⟨h1,h2,h3,h4,h5,h6,h7⟩ h
     refine .skip (.nsq (.seq (zq (zS ?_))))
     refine ez [(1,_),(2,_),(3,_),(4,_),(5,_),(6,_),(7,_),(36,_)] ⟨za h1 rfl (zf rfl mIE),za h2 rfl rfl,za h3 rfl (zj (r:=3) (p:=[]) rfl rfl),za h4 rfl mi,za h5 rfl me,za h6 rfl mi,za h7 rfl mi,zc rfl⟩ ?_
     rintro s ⟨h1,h2,h3,h4,h5,h6,h7,h36⟩
     refine g1 1 (gV x_1) h1 fun h33=>gm h5 fun h34=>gm h7 fun h35=>?_
     obtain ⟨r_74,E_r_74,h⟩:=bind_some h
     refine ZA (m:=1) (al:=false) (r:=zi .sh (r_74:NL Int)) (v:=oI 36 [] r_74) (kk:=1000000053) [Enc.enc (x_1:GR),eL r_56,Enc.enc (x_65:Int)] (ze (v:=gV x_1) h33 rfl (Enc.erase_enc (x_1:GR)) (ze (v:=eL r_56) h34 rfl (Enc.erase_enc (r_56:LI)) (ze (v:=ji x_65) h35 rfl rfl zx))) (H.c53o _ _ _ _ E_r_74) H.g53o rfl vf vX vv h36 (gv (ji (r_74.list.length:Int)) (YH (o:=r_74) rfl) fun h37=>gm h3 fun h38=>gm h4 fun h39=>gm h7 fun h40=>?_)
     obtain ⟨q_75,E_q_75,h⟩:=bind_some h
     refine gv (ji q_75) (wP rfl h40 E_q_75) fun h41=>g2 39 41 (ji (w64 (x_30 + q_75))) h39 h41 fun h42=>?_
     obtain ⟨e_76,E_e_76,h⟩:=bind_some h
     refine gv (.ref (.at 3 []) ((w64 (x_30 + q_75)).toNat) [] (ji e_76)) (wE (o:=.of x_29) h38 h42 E_e_76 rfl) fun h43=>g1 43 (ji e_76) h43 fun h44=>?_
     obtain ⟨r_77,E_r_77,h⟩:=bind_some h
     refine zF (m:=0) (al:=false) (r:=Enc.enc (r_77:Int)) [Enc.enc ((r_74.list.length:Int):Int),Enc.enc (e_76:Int)] (ze (v:=ji (r_74.list.length:Int)) h37 rfl rfl (ze (v:=ji e_76) h44 rfl rfl zx)) (H.c39 _ _ _ E_r_77) H.g39 rfl rfl rfl rfl (gm (rf (ji r_77)) fun h8=>gz [(1,_),(2,_),(3,_),(4,_),(5,_),(6,_),(7,_),(8,_)] ⟨h1,h2,h3,h4,h5,h6,h7,h8⟩ ?_)
     rintro s ⟨h1,h2,h3,h4,h5,h6,h7,h8⟩
     refine .nsq (.seq (rg (gm h6 fun h46=>g1 46 (jb (decide (x_64 < 0))) h46 fun h47=>gm h47 fun h48=>zW (c:=decide (x_64 < 0)) h (fun hg3 h=>?_) (fun hg3 h=>?_))))
     · iterate 3 refine z9 (ct h48 hg3) ?_
       refine g2 48 51 (jb true) (ct h48 hg3) (rf (.tup [])) fun h52=>gq ?_
       exact zcw H x_1 x_29 x_30 r_56 x_64 x_65 r_77 c1 Hc1 (xZ F x_1 x_29 x_30 r_56 c1 k) ih true _ ⟨h1,h2,h3,h4,h5,h6,h7,h8,h52⟩ h
     refine zg (ct h48 hg3) (gm h8 fun h49=>zg (ct h48 hg3) (gm h6 fun h50=>zg (ct h48 hg3) (g2 49 50 (jb (decide (r_77 < x_64))) h49 h50 fun h51=>g2 48 51 (jb (decide (r_77 < x_64))) (ct h48 hg3) h51 fun h52=>gq ?_)))
     exact zcw H x_1 x_29 x_30 r_56 x_64 x_65 r_77 c1 Hc1 (xZ F x_1 x_29 x_30 r_56 c1 k) ih (decide (r_77 < x_64)) _ ⟨h1,h2,h3,h4,h5,h6,h7,h8,h52⟩ h
   refine .exit (.esq (.elp (.ebk (.nsq (rg (gm h3 fun h54=>gm h4 fun h55=>gm h6 fun h56=>?_))))))
   obtain ⟨e_80,E_e_80,h⟩:=bind_some h
   refine gv (.ref (.at 3 []) x_30.toNat [] (ji e_80)) (wE (o:=.of x_29) h54 h55 E_e_80 rfl) fun h57=>yb (ji x_64) (zw h57 rfl) (zw h56 rfl) (wj (by first | rfl | simp [V.toks,V.tokss,Enc.toks_enc,ya])) (gz [(1,bG 1 x_1),(2,nI),(3,_),(4,ji x_30)] ⟨zb h1 (zC rfl rfl uIE),zb h2 rfl,zb h3 X0,zb h4 rfl⟩ ?_)
   rintro s ⟨h1,h2,h3,h4⟩
   refine .nbk (.nsq (rg (gm h4 fun h18=>g1 18 (ji (w64 (x_30 - 1))) h18 fun h19=>gm h19 fun h4=>gq (.nlp ?_))))
   exact Hc1 (x_29.set x_30.toNat x_64) (w64 (x_30 - 1)) _ ⟨h1,h2,h3,h4⟩ h
def x6 (F:Nat) (x_1:GR) :Nat→LI→Int→Option LI
 | 0,_,_=>none
 | k + 1,x_29,x_30=>
   bif decide (x_30≥0) then
    (Zx F x_1.1 x_30).bind fun r_56=>
    xZ F x_1 x_29 x_30 r_56 (x6 F x_1 k) F (-1) 0
   else
    some x_29
theorem zgD (H:H49 D σ F) (x_1:GR) :∀ (k:Nat) (x_29:LI) (x_30:Int) (s:Nat→V),zl [(1,bG 1 x_1),(2,nI),(3,oI 3 [] (.of x_29)),(4,ji x_30)] s→x6 F x_1 k x_29 x_30=some r→Run D σ (R49 r) (.run X3 [.lp X3,.bk 0,.sq Wb]) s:=by
 intro k
 induction k with
 | zero=>intro x_29 x_30 s _ h;exact nm h
 | succ k ih=>
   intro x_29 x_30 s hs h
   rw [x6] at h
   obtain ⟨h1,h2,h3,h4⟩:=hs
   refine .seq (.seq (rg (gm h4 fun h16=>g1 16 (jb (decide (x_30≥0))) h16 fun h17=>gq (.nsq (zk (t:=decide (x_30≥0)) h17 h (fun h=>?_) (fun h=>?_))))))
   · refine .skip (.nsq (.seq (.block (.seq (rg (g1 1 (.ref (.bx 1) 0 [0] (ji x_1.1)) h1 fun h20=>g1 20 (ji x_1.1) h20 fun h21=>gm h4 fun h22=>?_))))))
     obtain ⟨r_56,E_r_56,h⟩:=bind_some h
     refine zF (m:=0) (al:=false) (r:=eL r_56) [Enc.enc (x_1.1:Int),Enc.enc (x_30:Int)] (ze (v:=ji x_1.1) h21 rfl rfl (ze (v:=ji x_30) h22 rfl rfl zx)) (H.c32 _ _ _ E_r_56) H.g32 rfl rfl rfl rfl (gm (rf (eL r_56)) fun h5=>gq (.nsq (.seq (rg (g0 (ji (-1)) fun h6=>gq (.nsq (.seq (.seq (rg (g0 (ji 0) fun h7=>gq (.nsq (.block (.loop ?_)))))))))))))
     exact zgQ H x_1 x_29 x_30 r_56 (x6 F x_1 k) ih F (-1) 0 _ ⟨h1,h2,h3,h4,h5,h6,h7⟩ h
   refine .exit (.esq (.elp (.ebk (.nsq (.seq (rg (gm h3 fun h58=>gm h58 fun h2=>yQ (yC (r:=3) (x:=2) (v:=_) h2 rfl (fun s_13 hg_13=>?_)))))))))
   refine ez [(2,oI 2 [] (.of x_29))] (hg_13 2 _ _ h2 (zj (r:=3) (p:=[]) rfl rfl)) ?_
   rintro s h2
   refine .nsq (.ret ?_)
   have hr:=Option.some.inj h
   subst hr
   exact rrA (zn h2) (vh (vA (o:=.of x_29)) (xB rfl))
def Z1 (F:Nat) (x_1:GR):Option LI:=
 (vR .i64 1 x_1.1).bind fun q_2=>
 (mkN q_2 (0:Int)).bind fun mk_3=>
 x6 F x_1 F mk_3 (w64 ((mk_3.length:Int) - 1))
theorem t49 (H:H49 D σ F) (x_1:GR) (s:Nat→V) (hs:zl [(0,gV x_1)] s) (h:Z1 F x_1=some r):Run D σ (R49 r) (.run A49 []) s:=by
 unfold Z1 at h
 have h0:=hs
 refine .seq (zq (zS ?_))
 refine ez [(0,_),(1,_)] ⟨za h0 rfl mIE,zc rfl⟩ ?_
 rintro s ⟨h0,h1⟩
 refine xz (gV x_1) (zw h0 rfl) h1 rfl (g0 nI fun h2=>gq (.nsq (.seq (zq (zS ?_)))))
 refine ez [(1,_),(2,_),(12,_)] ⟨za rfl rfl (zf rfl mIE),za h2 rfl rfl,zc rfl⟩ ?_
 rintro s ⟨h1,h2,h12⟩
 refine g1 1 (.ref (.bx 1) 0 [0] (ji x_1.1)) h1 fun h9=>g1 9 (ji x_1.1) h9 fun h10=>?_
 obtain ⟨q_2,E_q_2,h⟩:=bind_some h
 refine gv (ji q_2) (wP rfl h10 E_q_2) fun h11=>?_
 obtain ⟨mk_3,E_mk_3,h⟩:=bind_some h
 refine zki (0:Int) h11 rfl h12 E_mk_3 (gm (rf (oI 12 [] (.of mk_3))) fun h3=>yQ (yC (r:=12) (x:=3) (v:=_) h3 rfl (fun s_3 hg_3=>?_)))
 refine ez [(1,bG 1 x_1),(2,nI),(3,oI 3 [] (.of mk_3))] ⟨hg_3 1 _ _ h1 (zf rfl mIE),hg_3 2 _ _ h2 rfl,hg_3 3 _ _ h3 (zj (r:=12) (p:=[]) rfl rfl)⟩ ?_
 rintro s ⟨h1,h2,h3⟩
 refine .nsq (.seq (.seq (rg (gm h3 fun h13=>gv (ji (mk_3.length:Int)) (YH (o:=.of mk_3) h13) fun h14=>g1 14 (ji (w64 ((mk_3.length:Int) - 1))) h14 fun h15=>gm h15 fun h4=>gq (.nsq (.block (.loop ?_)))))))
 exact zgD H x_1 F mk_3 (w64 ((mk_3.length:Int) - 1)) _ ⟨h1,h2,h3,h4⟩ h
end
def e49 (F:Nat):Ent:=ent 49 (fun (x:(GR×Unit))=>Z1 F x.1) (fun (r:LI)=>(eL r)) 0 false []
abbrev C49 (D:List V→Option V) (F:Nat):Prop:=∀ (x0:GR) r,Z1 F x0=some r→D [Enc.enc x0]=some (eL r)
theorem p49 {F:Nat}:C49 (e49 F).den F:=fun x0 _ h=>zN (x0,()) h
theorem o49 {D:Den} {σ:Sig} {F:Nat} (hF:zy Try.prog D σ) (H:H49 D σ F):(e49 F).Ok Try.prog:=by
 refine yl (f:=49) (show unk 49=49 from rfl) (fun args r h=>?_) ⟨Try.f49,Try.func49,rfl,rfl⟩
 obtain ⟨⟨x0,_⟩,y,rfl,hy,rfl⟩:=zM h
 exact zm hF (by kernel_rfl) Try.func49 rfl c49 (show 1≤Try.f49.ntmps by decide) (t49 H x0 _ rfl hy)
def zpE:AC:=(.seq (.reg [] [jv 3 (.load (.ag [.s,.p]) (.t 1)),jx 4 (.call (jf 49) [.t 3]),jv 5 (.idx (.t 4) (jn 0) 1),jv 6 (.load .s (.t 5)),jm 2 6] []) .ret)
def A23:AC:=(.seq (.reg [.clr [1]] [jx 1 (.box (.t 0)),jv 2 (.mov (jn 0))] []) zpE)
def ztJ:List An:=[⟨0,[.clr [1]],[],[],[]⟩]
theorem c23:cC Try.prog Try.f23.ntmps ztJ (Try.f23.body.getD .skip)=some A23:=by kernel_rfl
structure H23 (D:Den) (σ:Sig) (F:Nat):Prop where
 c49:C49 (D 49) F
 g49:σ 49=some (0,false)
abbrev R23 (r:Int):(Nat→V)→Prop:=RR Try.prog [.tmp 2] 0 false (Enc.enc (r:Int))
section
variable {D:Den} {σ:Sig} {F:Nat} {r:Int}
def Wo (F:Nat) (x_1:GR):Option Int:=
 (Z1 F x_1).bind fun r_2=>
 (idx r_2 0).bind fun e_3=>
 some e_3
theorem t23 (H:H23 D σ F) (x_1:GR) (s:Nat→V) (hs:zl [(0,gV x_1)] s) (h:Wo F x_1=some r):Run D σ (R23 r) (.run A23 []) s:=by
 unfold Wo at h
 have h0:=hs
 refine .seq (zq (zS ?_))
 refine ez [(0,_),(1,_)] ⟨za h0 rfl mIE,zc rfl⟩ ?_
 rintro s ⟨h0,h1⟩
 refine xz (gV x_1) (zw h0 rfl) h1 rfl (g0 (ji 0) fun h2=>gq (.nsq (.seq (rg (g1 1 (gV x_1) (rf (bG 1 x_1)) fun h3=>?_)))))
 obtain ⟨r_2,E_r_2,h⟩:=bind_some h
 refine zF (m:=0) (al:=false) (r:=eL r_2) [Enc.enc (x_1:GR)] (ze (v:=gV x_1) h3 rfl (Enc.erase_enc (x_1:GR)) zx) (H.c49 _ _ E_r_2) H.g49 rfl rfl rfl rfl ?_
 obtain ⟨e_3,E_e_3,h⟩:=bind_some h
 refine gv (.ref .sh 0 [] (ji e_3)) (yz (t:=.sh) (lo:=0) (xs:=r_2) rfl rfl E_e_3 rfl rfl) fun h5=>g1 5 (ji e_3) h5 fun h6=>gm h6 fun h2=>gq (.nsq (.ret ?_))
 have hr:=Option.some.inj h
 subst hr
 exact rrA (zn h2) rfl
end
def e23 (F:Nat):Ent:=ent 23 (fun (x:(GR×Unit))=>Wo F x.1) (fun (r:Int)=>(Enc.enc (r:Int))) 0 false []
abbrev C23 (D:List V→Option V) (F:Nat):Prop:=∀ (x0:GR) r,Wo F x0=some r→D [Enc.enc x0]=some (Enc.enc (r:Int))
theorem p23 {F:Nat}:C23 (e23 F).den F:=fun x0 _ h=>zN (x0,()) h
theorem o23 {D:Den} {σ:Sig} {F:Nat} (hF:zy Try.prog D σ) (H:H23 D σ F):(e23 F).Ok Try.prog:=by
 refine yl (f:=23) (show unk 23=23 from rfl) (fun args r h=>?_) ⟨Try.f23,Try.func23,rfl,rfl⟩
 obtain ⟨⟨x0,_⟩,y,rfl,hy,rfl⟩:=zM h
 exact zm hF (by kernel_rfl) Try.func23 rfl c23 (show 1≤Try.f23.ntmps by decide) (t23 H x0 _ rfl hy)
def ztm:AC:=(.cond (.t 6) (.seq (.reg [] [jv 2 (.mov (jn 0)),jv 3 (.mov kf)] []) .ret) .skip)
def ztt:AC:=(.seq (.reg [] [jv 7 (.load (.ag [.s,.p]) (.t 1)),jx 8 (.call (jf 23) [.t 7]),jm 2 8,jv 3 (.mov kt)] []) .ret)
def zuu:AC:=(.seq (.seq (.reg [] [jv 4 (.load (.ag [.s,.p]) (.t 1)),jx 5 (.call (jf 22) [.t 4]),jv 6 (.un .not (.t 5))] []) ztm) ztt)
def A7:AC:=(.seq (.reg [.clr [1]] [jx 1 (.box (.t 0)),jv 2 (.mov (jn 0)),jv 3 (.mov kf)] []) zuu)
def an7:List An:=[⟨0,[.clr [1]],[],[],[]⟩]
theorem c7:cC Try.prog Try.f7.ntmps an7 (Try.f7.body.getD .skip)=some A7:=by kernel_rfl
structure H7 (D:Den) (σ:Sig) (F:Nat):Prop where
 c22:C22 (D 22) F
 g22:σ 22=some (0,false)
 c23:C23 (D 23) F
 g23:σ 23=some (0,false)
abbrev R7 (r:(Int×Bool)):(Nat→V)→Prop:=RR Try.prog [.tmp 2,.tmp 3] 0 false (.tup [Enc.enc (r.1:Int),Enc.enc (r.2:Bool)])
section
variable {D:Den} {σ:Sig} {F:Nat} {r:(Int×Bool)}
def wF (F:Nat) (x_1:GR):Option (Int×Bool):=
 (uk F x_1).bind fun r_2=>
 bif (!r_2) then
  some (0,false)
 else
  (Wo F x_1).bind fun r_3=>
  some (r_3,true)
theorem t7 (H:H7 D σ F) (x_1:GR) (s:Nat→V) (hs:zl [(0,gV x_1)] s) (h:wF F x_1=some r):Run D σ (R7 r) (.run A7 []) s:=by
 unfold wF at h
 have h0:=hs
 refine .seq (zq (zS ?_))
 refine ez [(0,_),(1,_)] ⟨za h0 rfl mIE,zc rfl⟩ ?_
 rintro s ⟨h0,h1⟩
 refine xz (gV x_1) (zw h0 rfl) h1 rfl (g0 (ji 0) fun h2=>g0 (jb false) fun h3=>gq (.nsq (.seq (.seq (rg (g1 1 (gV x_1) (rf (bG 1 x_1)) fun h4=>?_))))))
 obtain ⟨r_2,E_r_2,h⟩:=bind_some h
 refine zF (m:=0) (al:=false) (r:=Enc.enc (r_2:Bool)) [Enc.enc (x_1:GR)] (ze (v:=gV x_1) h4 rfl (Enc.erase_enc (x_1:GR)) zx) (H.c22 _ _ E_r_2) H.g22 rfl rfl rfl rfl (g1 5 (jb (!r_2)) (rf (jb r_2)) fun h6=>gq (.nsq (zk (t:=(!r_2)) h6 h (fun h=>?_) (fun h=>?_))))
 · refine .seq (rg (g0 (ji 0) fun h2=>g0 (jb false) fun h3=>gq (.nsq (.ret ?_))))
   have hr:=Option.some.inj h
   subst hr
   exact rrB (zn h2) (zn h3) rfl
 refine .skip (.nsq (.seq (rg (g1 1 (gV x_1) (rf (bG 1 x_1)) fun h7=>?_))))
 obtain ⟨r_3,E_r_3,h⟩:=bind_some h
 refine zF (m:=0) (al:=false) (r:=Enc.enc (r_3:Int)) [Enc.enc (x_1:GR)] (ze (v:=gV x_1) h7 rfl (Enc.erase_enc (x_1:GR)) zx) (H.c23 _ _ E_r_3) H.g23 rfl rfl rfl rfl (gm (rf (ji r_3)) fun h2=>g0 (jb true) fun h3=>gq (.nsq (.ret ?_)))
 have hr:=Option.some.inj h
 subst hr
 exact rrB (zn h2) (zn h3) rfl
end
def e7 (F:Nat):Ent:=ent 7 (fun (x:(GR×Unit))=>wF F x.1) (fun (r:(Int×Bool))=>(.tup [Enc.enc (r.1:Int),Enc.enc (r.2:Bool)])) 0 false []
abbrev C7 (D:List V→Option V) (F:Nat):Prop:=∀ (x0:GR) r,wF F x0=some r→D [Enc.enc x0]=some (.tup [Enc.enc (r.1:Int),Enc.enc (r.2:Bool)])
theorem p7 {F:Nat}:C7 (e7 F).den F:=fun x0 _ h=>zN (x0,()) h
theorem o7 {D:Den} {σ:Sig} {F:Nat} (hF:zy Try.prog D σ) (H:H7 D σ F):(e7 F).Ok Try.prog:=by
 refine yl (f:=7) (show unk 7=7 from rfl) (fun args r h=>?_) ⟨Try.f7,Try.func7,rfl,rfl⟩
 obtain ⟨⟨x0,_⟩,y,rfl,hy,rfl⟩:=zM h
 exact zm hF (by kernel_rfl) Try.func7 rfl c7 (show 1≤Try.f7.ntmps by decide) (t7 H x0 _ rfl hy)
def zky:AC:=(.cond (.t 14) .skip (.exit 0))
def zg2:AC:=(.seq (.reg [] [jm 45 8,jm 46 10,jv 47 (.bin .shl (jn 1) (.t 46)),jv 48 (.bin .or (.t 45) (.t 47)),jm 8 48] []) (.exit 2))
def zjq:AC:=(.cond (.t 40) (.seq (.reg [.clr [43,44]] [jm 41 7,jm 42 10,jx 43 (.lit i0 1 [(0,0,.t 42)]),jx 44 (.app .s (.t 41) (.t 43)),jm 7 44] [.home 44 7]) zg2) .skip)
def zjw:AC:=(.seq (.reg [] [jm 25 2,jm 26 8,jm 27 10,jx 28 (.call (.t 25) [.t 26,.t 27]),jm 29 1,jm 30 8,jm 31 10,jv 32 (.bin .shl (jn 1) (.t 31)),jv 33 (.bin .or (.t 30) (.t 32)),jv 34 (.idx (.t 29) (.t 33) 1),jv 35 (.load .s (.t 34)),jv 36 (.mx [.t 28,.t 35]),jm 37 1,jv 38 (.idx (.t 37) (jn 0) 1),jv 39 (.load .s (.t 38)),jv 40 (.bin .leq (.t 36) (.t 39))] []) zjq)
def zjb:AC:=(.reg [] [jv 49 (.bin .add (.t 21) (jn 1)),jm 21 49] [])
def zkb:AC:=(.seq (.block 3 (.seq (.reg [] [jv 23 (.idx (.t 19) (.t 21) 1),jv 24 (.load .s (.t 23)),jm 10 24] []) zjw)) zjb)
def zkE:AC:=(.seq (.cond (.t 22) .skip (.exit 2)) zkb)
def Ql:AC:=(.seq (.reg [] [jv 22 (.bin .lss (.t 21) (.t 20))] []) zkE)
def zkf:AC:=(.block 2 (.loop Ql))
def zjI:AC:=(.block 1 (.seq (.reg [] [jv 15 (.load (.ag [.p]) (.t 3)),jx 16 (.call (jf 28) [.t 15]),jm 17 8,jv 18 (.bin .andNot (.t 16) (.t 17)),jx 19 (.call (jf 29) [.t 18]),jv 20 (.len (.t 19)),jv 21 (.mov (jn 0))] []) zkf))
def U2:AC:=(.seq (.seq (.reg [] [jm 11 8,jv 12 (.load (.ag [.p]) (.t 3)),jx 13 (.call (jf 28) [.t 12]),jv 14 (.bin .neq (.t 11) (.t 13))] []) zky) zjI)
def JU:AC:=(.seq (.reg [] [jm 50 7,jm 6 50] [.home 7 6]) .ret)
def zin:AC:=(.block 0 (.loop U2))
def ziy:AC:=(.seq (.seq (.reg [] [jv 8 (.mov (jn 0))] []) zin) JU)
def zgw:AC:=(.seq (.reg [] [jv 7 (.mov (.k (.sl .nl .s 0 [])))] []) ziy)
def zlk:AC:=(.seq (.reg [.clr [3]] [jx 3 (.box (.t 0)),jv 6 (.mov (.k (.sl .nl .s 0 [])))] []) zgw)
def zlS:List An:=[⟨0,[.clr [3]],[],[],[]⟩,⟨8,[.clr [43,44]],[],[],[.home 44 7]⟩,⟨11,[],[],[],[.home 7 6]⟩]
theorem c24s1:cC Try.prog Try.f24.ntmps zlS (Try.f24.body.getD .skip)=some zlk:=by kernel_rfl
structure zfj (D:Den) (σ:Sig) (F:Nat):Prop where
 c28:C28 (D 28) F
 g28:σ 28=some (0,false)
 c29:C29 (D 29) F
 g29:σ 29=some (0,false)
 c26:C26 (D 26) F
 g26:σ 26=some (0,false)
abbrev zd7 (r:LI):(Nat→V)→Prop:=RR Try.prog [.tmp 6] 0 false (eL r)
section
variable {D:Den} {σ:Sig} {F:Nat} {r:LI}
def yj (F:Nat) (x_2:LI) (x_3:(Cl 26 ((S1 LI)×Unit) Unit)) (x_1:(S1 LI)) (x_35:(NL Int)) (x_36:Int) (r_70:LI) (c1:(NL Int)→Int→Option LI):Nat→Int→Option LI
 | 0,_=>none
 | k + 1,x_80=>
   bif decide (x_80 < (r_70.length:Int)) then
    (idx r_70 x_80).bind fun e_90=>
    (xl F x_3.fs.1 x_36 e_90).bind fun r_91=>
    (vR .i64 1 e_90).bind fun q_92=>
    (idx x_2 (ior .i64 x_36 q_92)).bind fun e_93=>
    (idx x_2 0).bind fun e_94=>
    bif decide ((if e_93 > r_91 then e_93 else r_91)≤e_94) then
     (wS x_35.list [e_90]).bind fun ap_97=>
     (vR .i64 1 e_90).bind fun q_98=>
     c1 (.of ap_97) (ior .i64 x_36 q_98)
    else
     (yj F x_2 x_3 x_1 x_35 x_36 r_70 c1 k) (w64 (x_80 + 1))
   else
    c1 x_35 x_36
theorem zda (H:zfj D σ F) (x_2:LI) (x_3:(Cl 26 ((S1 LI)×Unit) Unit)) (x_1:(S1 LI)) (x_35:(NL Int)) (x_36:Int) (r_70:LI) (c1:(NL Int)→Int→Option LI) (Hc1:∀ (x_35:(NL Int)) (x_36:Int) (s:Nat→V),zl [(1,eL x_2),(2,.fn 26 [.agg [eL x_3.fs.1.a]] []),(3,.ref (.bx 3) 0 [] (.agg [eL x_1.a])),(6,nI),(7,oI 7 [] x_35),(8,ji x_36)] s→c1 x_35 x_36=some r→Run D σ (zd7 r) (.run U2 [.lp U2,.bk 0,.sq JU]) s):∀ (k:Nat) (x_80:Int) (s:Nat→V),zl [(1,eL x_2),(2,.fn 26 [.agg [eL x_3.fs.1.a]] []),(3,.ref (.bx 3) 0 [] (.agg [eL x_1.a])),(6,nI),(7,oI 7 [] x_35),(8,ji x_36),(19,eL r_70),(20,ji (r_70.length:Int)),(21,ji x_80)] s→yj F x_2 x_3 x_1 x_35 x_36 r_70 c1 k x_80=some r→Run D σ (zd7 r) (.run Ql [.lp Ql,.bk 2,.bk 1,.lp U2,.bk 0,.sq JU]) s:=by
 intro k
 induction k with
 | zero=>intro x_80 s _ h;exact nm h
 | succ k ih=>
   intro x_80 s hs h
   rw [yj] at h
   obtain ⟨h1,h2,h3,h6,h7,h8,h19,h20,h21⟩:=hs
   refine .seq (rg (g2 21 20 (jb (decide (x_80 < (r_70.length:Int)))) h21 h20 fun h22=>gq (.nsq (.seq (zk (t:=decide (x_80 < (r_70.length:Int))) h22 h (fun h=>?_) (fun h=>?_))))))
   · refine .skip (.nsq (.seq (.block (.seq (rg ?_)))))
     obtain ⟨e_90,E_e_90,h⟩:=bind_some h
     refine gv (.ref .sh 0 [] (ji e_90)) (yz (t:=.sh) (lo:=0) (xs:=r_70) h19 h21 E_e_90 rfl rfl) fun h23=>g1 23 (ji e_90) h23 fun h24=>gm h24 fun h10=>gq (.nsq (.seq (rg (gm h2 fun h25=>gm h8 fun h26=>gm h10 fun h27=>?_))))
     obtain ⟨r_91,E_r_91,h⟩:=bind_some h
     refine LH (m:=0) (al:=false) (r:=Enc.enc (r_91:Int)) (fs:=[.agg [eL x_3.fs.1.a]]) (env:=[]) (us:=[Enc.enc (x_3.fs.1:(S1 LI))]) (ws:=[]) h25 (xN (Enc.erase_enc (x_3.fs.1:(S1 LI))) xf) xf rfl [Enc.enc (x_36:Int),Enc.enc (e_90:Int)] (ze (v:=ji x_36) h26 rfl rfl (ze (v:=ji e_90) h27 rfl rfl zx)) (H.c26 _ _ _ _ E_r_91) H.g26 rfl rfl rfl rfl (gm h1 fun h29=>gm h8 fun h30=>gm h10 fun h31=>?_)
     obtain ⟨q_92,E_q_92,h⟩:=bind_some h
     refine gv (ji q_92) (wP rfl h31 E_q_92) fun h32=>g2 30 32 (ji (ior .i64 x_36 q_92)) h30 h32 fun h33=>?_
     obtain ⟨e_93,E_e_93,h⟩:=bind_some h
     refine gv (.ref .sh 0 [] (ji e_93)) (yz (t:=.sh) (lo:=0) (xs:=x_2) h29 h33 E_e_93 rfl rfl) fun h34=>g1 34 (ji e_93) h34 fun h35=>g2 28 35 (ji (if e_93 > r_91 then e_93 else r_91)) (rf (ji r_91)) h35 fun h36=>gm h1 fun h37=>?_
     obtain ⟨e_94,E_e_94,h⟩:=bind_some h
     refine gv (.ref .sh 0 [] (ji e_94)) (yz (t:=.sh) (lo:=0) (xs:=x_2) h37 rfl E_e_94 rfl rfl) fun h38=>g1 38 (ji e_94) h38 fun h39=>g2 36 39 (jb (decide ((if e_93 > r_91 then e_93 else r_91)≤e_94))) h36 h39 fun h40=>gz [(1,_),(2,_),(3,_),(6,_),(7,_),(8,_),(10,_),(19,_),(20,_),(21,_),(40,_)] ⟨h1,h2,h3,h6,h7,h8,h10,h19,h20,h21,h40⟩ ?_
     rintro s ⟨h1,h2,h3,h6,h7,h8,h10,h19,h20,h21,h40⟩
     refine .nsq (zk (t:=decide ((if e_93 > r_91 then e_93 else r_91)≤e_94)) h40 h (fun h=>?_) (fun h=>?_))
     · refine .seq (zq (zS ?_))
       refine ez [(1,_),(2,_),(3,_),(6,_),(7,_),(8,_),(10,_),(19,_),(20,_),(21,_),(43,_),(44,_)] ⟨za h1 rfl me,za h2 rfl (X7 (zd (zA (zd me zh)) zh) zh),za h3 rfl (zf rfl (zA (zd me zh))),za h6 rfl rfl,za h7 rfl (zj (r:=7) (p:=[]) rfl rfl),za h8 rfl mi,za h10 rfl mi,za h19 rfl me,za h20 rfl mi,za h21 rfl mi,zc rfl,zc rfl⟩ ?_
       rintro s ⟨h1,h2,h3,h6,h7,h8,h10,h19,h20,h21,h43,h44⟩
       refine gv (oI 7 [] x_35) (wa h7 yI) fun h41=>gm h10 fun h42=>xT [(42,ji e_90)] [Enc.enc (e_90:Int)] h42 rfl rfl h43 ?_
       obtain ⟨ap_97,E_ap_97,h⟩:=bind_some h
       refine Xz (q:=7) (p:=[]) (o:=(x_35:NL Int)) (ys:=([e_90]:LI)) (t2:=.at 43 []) (lo2:=0) h41 rfl rfl h44 (ZJ (o:=(x_35:NL Int)) E_ap_97 (by split <;> simp)) (fun s_54 ha_54=>gm (rf (oI 44 [] (.of ap_97))) fun h7=>yQ (yC (r:=44) (x:=7) (v:=_) h7 rfl (fun s_55 hg_55=>?_)))
       refine ez [(1,eL x_2),(2,.fn 26 [.agg [eL x_3.fs.1.a]] []),(3,.ref (.bx 3) 0 [] (.agg [eL x_1.a])),(6,nI),(7,oI 7 [] (.of ap_97)),(8,ji x_36),(10,ji e_90),(19,eL r_70),(20,ji (r_70.length:Int)),(21,ji x_80)] ⟨hg_55 1 _ _ (show s_54 1=(eL x_2) from zJ ha_54 h1 me) me,hg_55 2 _ _ (show s_54 2=(.fn 26 [.agg [eL x_3.fs.1.a]] []) from zJ ha_54 h2 (X7 (zd (zA (zd me zh)) zh) zh)) (X7 (zd (zA (zd me zh)) zh) zh),hg_55 3 _ _ (show s_54 3=(.ref (.bx 3) 0 [] (.agg [eL x_1.a])) from zJ ha_54 h3 (zf rfl (zA (zd me zh)))) (zf rfl (zA (zd me zh))),hg_55 6 _ nI (show s_54 6=nI from zJ ha_54 h6 rfl) rfl,hg_55 7 _ _ h7 (zj (r:=44) (p:=[]) rfl rfl),hg_55 8 _ _ (show s_54 8=(ji x_36) from zJ ha_54 h8 mi) mi,hg_55 10 _ _ (show s_54 10=(ji e_90) from zJ ha_54 h10 mi) mi,hg_55 19 _ _ (show s_54 19=(eL r_70) from zJ ha_54 h19 me) me,hg_55 20 _ _ (show s_54 20=(ji (r_70.length:Int)) from zJ ha_54 h20 mi) mi,hg_55 21 _ _ (show s_54 21=(ji x_80) from zJ ha_54 h21 mi) mi⟩ ?_
       rintro s ⟨h1,h2,h3,h6,h7,h8,h10,h19,h20,h21⟩
       refine .nsq (.seq (rg (gm h8 fun h45=>gm h10 fun h46=>?_)))
       obtain ⟨q_98,E_q_98,h⟩:=bind_some h
       refine gv (ji q_98) (wP rfl h46 E_q_98) fun h47=>g2 45 47 (ji (ior .i64 x_36 q_98)) h45 h47 fun h48=>gm h48 fun h8=>gq (.nsq (.exit (.ebn (by decide) (.esq (.elp (.ebk (.nbk (.nlp ?_))))))))
       exact Hc1 (.of ap_97) (ior .i64 x_36 q_98) _ ⟨h1,h2,h3,h6,h7,h8⟩ h
     refine .skip (.nbk (.nsq (rg (g1 21 (ji (w64 (x_80 + 1))) h21 fun h49=>gm h49 fun h21=>gq (.nlp ?_)))))
     exact ih (w64 (x_80 + 1)) _ ⟨h1,h2,h3,h6,h7,h8,h19,h20,h21⟩ h
   refine .exit (.esq (.elp (.ebk (.nbk (.nlp ?_)))))
   exact Hc1 x_35 x_36 _ ⟨h1,h2,h3,h6,h7,h8⟩ h
def z8 (F:Nat) (x_2:LI) (x_3:(Cl 26 ((S1 LI)×Unit) Unit)) (x_1:(S1 LI)) :Nat→(NL Int)→Int→Option LI
 | 0,_,_=>none
 | k + 1,x_35,x_36=>
   (yg F x_1).bind fun r_68=>
   bif (x_36 != r_68) then
    (yg F x_1).bind fun r_69=>
    (vG F (zK .i64 r_69 x_36)).bind fun r_70=>
    yj F x_2 x_3 x_1 x_35 x_36 r_70 (z8 F x_2 x_3 x_1 k) F 0
   else
    some x_35.list
theorem zdb (H:zfj D σ F) (x_2:LI) (x_3:(Cl 26 ((S1 LI)×Unit) Unit)) (x_1:(S1 LI)) :∀ (k:Nat) (x_35:(NL Int)) (x_36:Int) (s:Nat→V),zl [(1,eL x_2),(2,.fn 26 [.agg [eL x_3.fs.1.a]] []),(3,.ref (.bx 3) 0 [] (.agg [eL x_1.a])),(6,nI),(7,oI 7 [] x_35),(8,ji x_36)] s→z8 F x_2 x_3 x_1 k x_35 x_36=some r→Run D σ (zd7 r) (.run U2 [.lp U2,.bk 0,.sq JU]) s:=by
 intro k
 induction k with
 | zero=>intro x_35 x_36 s _ h;exact nm h
 | succ k ih=>
   intro x_35 x_36 s hs h
   rw [z8] at h
   obtain ⟨h1,h2,h3,h6,h7,h8⟩:=hs
   refine .seq (.seq (rg (gm h8 fun h11=>g1 3 (.agg [eL x_1.a]) h3 fun h12=>?_)))
   obtain ⟨r_68,E_r_68,h⟩:=bind_some h
   refine zF (m:=0) (al:=false) (r:=Enc.enc (r_68:Int)) [Enc.enc (x_1:(S1 LI))] (ze (v:=.agg [eL x_1.a]) h12 rfl (Enc.erase_enc (x_1:(S1 LI))) zx) (H.c28 _ _ E_r_68) H.g28 rfl rfl rfl rfl (g2 11 13 (jb (x_36 != r_68)) h11 (rf (ji r_68)) fun h14=>gq (.nsq (zk (t:=(x_36 != r_68)) h14 h (fun h=>?_) (fun h=>?_))))
   · refine .skip (.nsq (.block (.seq (rg (g1 3 (.agg [eL x_1.a]) h3 fun h15=>?_)))))
     obtain ⟨r_69,E_r_69,h⟩:=bind_some h
     refine zF (m:=0) (al:=false) (r:=Enc.enc (r_69:Int)) [Enc.enc (x_1:(S1 LI))] (ze (v:=.agg [eL x_1.a]) h15 rfl (Enc.erase_enc (x_1:(S1 LI))) zx) (H.c28 _ _ E_r_69) H.g28 rfl rfl rfl rfl (gm h8 fun h17=>g2 16 17 (ji (zK .i64 r_69 x_36)) (rf (ji r_69)) h17 fun h18=>?_)
     obtain ⟨r_70,E_r_70,h⟩:=bind_some h
     refine zF (m:=0) (al:=false) (r:=eL r_70) [Enc.enc (zK .i64 r_69 x_36:Int)] (ze (v:=ji (zK .i64 r_69 x_36)) h18 rfl rfl zx) (H.c29 _ _ E_r_70) H.g29 rfl rfl rfl rfl (gv (ji (r_70.length:Int)) (yu (xs:=r_70) rfl) fun h20=>g0 (ji 0) fun h21=>gq (.nsq (.block (.loop ?_))))
     exact zda H x_2 x_3 x_1 x_35 x_36 r_70 (z8 F x_2 x_3 x_1 k) ih F 0 _ ⟨h1,h2,h3,h6,h7,h8,rfl,h20,h21⟩ h
   refine .exit (.esq (.elp (.ebk (.nsq (.seq (rg (gv (oI 7 [] x_35) (wa h7 yI) fun h50=>gv (oI 7 [] x_35) (wa h50 yI) fun h6=>yQ (yC (r:=7) (x:=6) (v:=_) h6 yI (fun s_56 hg_56=>?_)))))))))
   refine ez [(6,oI 6 [] x_35)] (hg_56 6 _ _ h6 (zj (r:=7) (p:=[]) rfl rfl)) ?_
   rintro s h6
   refine .nsq (.ret ?_)
   have hr:=Option.some.inj h
   subst hr
   exact rrA (zn h6) (vh (vA (o:=x_35)) (xB rfl))
def yo (F:Nat) (x_1:(S1 LI)) (x_2:LI) (x_3:(Cl 26 ((S1 LI)×Unit) Unit)):Option LI:=
 z8 F x_2 x_3 x_1 F .nil 0
theorem zsW (H:zfj D σ F) (x_1:(S1 LI)) (x_2:LI) (x_3:(Cl 26 ((S1 LI)×Unit) Unit)) (s:Nat→V) (hs:zl [(0,.agg [eL x_1.a]),(1,eL x_2),(2,.fn 26 [.agg [eL x_3.fs.1.a]] [])] s) (h:yo F x_1 x_2 x_3=some r):Run D σ (zd7 r) (.run zlk []) s:=by
 unfold yo at h
 obtain ⟨h0,h1,h2⟩:=hs
 refine .seq (zq (zS ?_))
 refine ez [(0,_),(1,_),(2,_),(3,_)] ⟨za h0 rfl (zA (zd me zh)),za h1 rfl me,za h2 rfl (X7 (zd (zA (zd me zh)) zh) zh),zc rfl⟩ ?_
 rintro s ⟨h0,h1,h2,h3⟩
 refine xz (.agg [eL x_1.a]) (zw h0 rfl) h3 rfl (g0 nI fun h6=>gq (.nsq (.seq (rg (g0 nI fun h7=>gq (.nsq (.seq (.seq (rg (g0 (ji 0) fun h8=>gq (.nsq (.block (.loop ?_)))))))))))))
 exact zdb H x_2 x_3 x_1 F .nil 0 _ ⟨h1,h2,rfl,h6,h7,h8⟩ h
end
def zhn (F:Nat):Ent:=ent 24 (fun (x:((S1 LI)×LI×(Cl 26 ((S1 LI)×Unit) Unit)×Unit))=>yo F x.1 x.2.1 x.2.2.1) (fun (r:LI)=>(eL r)) 0 false [(2,26)]
abbrev zlt (D:List V→Option V) (F:Nat):Prop:=∀ (x0:(S1 LI)) (x1:LI) (x2:(Cl 26 ((S1 LI)×Unit) Unit)) r,yo F x0 x1 x2=some r→D [Enc.enc x0,Enc.enc x1,Arg.arg x2]=some (eL r)
theorem zrz {F:Nat}:zlt (zhn F).den F:=fun x0 x1 x2 _ h=>zN (x0,x1,x2,()) h
theorem zqv {D:Den} {σ:Sig} {F:Nat} (hF:zy Try.prog D σ) (H:zfj D σ F):(zhn F).Ok Try.prog:=by
 refine yl (f:=24) (show unk 24=24 from rfl) (fun args r h=>?_) ⟨Try.f24,Try.func24,rfl,rfl⟩
 obtain ⟨⟨x0,x1,x2,_⟩,y,rfl,hy,rfl⟩:=zM h
 exact zm hF (by kernel_rfl) Try.func24 rfl c24s1 (show 3≤Try.f24.ntmps by decide) (zsW H x0 x1 x2 _ ⟨rfl,rfl,rfl⟩ hy)
def ztC:AC:=(.cond (.t 7) (.seq (.reg [] [jv 2 (.mov (.k (.sl .nl .s 0 []))),jv 3 (.mov kf)] []) .ret) .skip)
def ztB:AC:=(.seq (.reg [] [jv 10 (.load (.ag [.p]) (.t 4)),jv 11 (.load (.ag [.p]) (.t 4)),jx 12 (.call (jf 25) [.t 11]),jv 13 (.load (.ag [.p]) (.t 4)),jv 14 (.fn 26 [.t 13] []),jx 15 (.call (jf 24) [.t 10,.t 12,.t 14]),jm 2 15,jv 3 (.mov kt)] []) .ret)
def ztk:AC:=(.seq (.reg [.clr [4]] [jv 8 (.load (.ag [.s,.p]) (.t 1)),jx 9 (.call (jf 20) [.t 8]),jx 4 (.alloc (.agg [.sl .nl .s 0 []])),jz (.store (.ag [.p]) (.t 4) (.t 9))] []) ztB)
def zuo:AC:=(.seq (.seq (.reg [] [jv 5 (.load (.ag [.s,.p]) (.t 1)),jx 6 (.call (jf 19) [.t 5]),jv 7 (.un .not (.t 6))] []) ztC) ztk)
def A8:AC:=(.seq (.reg [.clr [1]] [jx 1 (.box (.t 0)),jv 2 (.mov (.k (.sl .nl .s 0 []))),jv 3 (.mov kf)] []) zuo)
def an8:List An:=[⟨0,[.clr [1]],[],[],[]⟩,⟨3,[.clr [4]],[],[],[]⟩]
theorem c8:cC Try.prog Try.f8.ntmps an8 (Try.f8.body.getD .skip)=some A8:=by kernel_rfl
structure H8 (D:Den) (σ:Sig) (F:Nat):Prop where
 c19:C19 (D 19) F
 g19:σ 19=some (0,false)
 c20:C20 (D 20) F
 g20:σ 20=some (0,false)
 c25:C25 (D 25) F
 g25:σ 25=some (0,true)
 c24s1:zlt (D 24) F
 g24s1:σ 24=some (0,false)
abbrev R8 (r:(LI×Bool)):(Nat→V)→Prop:=RR Try.prog [.tmp 2,.tmp 3] 0 true (.tup [eL r.1,Enc.enc (r.2:Bool)])
section
variable {D:Den} {σ:Sig} {F:Nat} {r:(LI×Bool)}
def y8 (F:Nat) (x_1:GR):Option (LI×Bool):=
 (wq F x_1).bind fun r_2=>
 bif (!r_2) then
  some ([],false)
 else
  (vS F x_1).bind fun r_3=>
  (xv F r_3).bind fun r_4=>
  (yo F r_3 r_4 (Cl.mk (r_3,()) ():(Cl 26 ((S1 LI)×Unit) Unit))).bind fun r_5=>
  some (r_5,true)
theorem t8 (H:H8 D σ F) (x_1:GR) (s:Nat→V) (hs:zl [(0,gV x_1)] s) (h:y8 F x_1=some r):Run D σ (R8 r) (.run A8 []) s:=by
 unfold y8 at h
 have h0:=hs
 refine .seq (zq (zS ?_))
 refine ez [(0,_),(1,_)] ⟨za h0 rfl mIE,zc rfl⟩ ?_
 rintro s ⟨h0,h1⟩
 refine xz (gV x_1) (zw h0 rfl) h1 rfl (g0 nI fun h2=>g0 (jb false) fun h3=>gq (.nsq (.seq (.seq (rg (g1 1 (gV x_1) (rf (bG 1 x_1)) fun h5=>?_))))))
 obtain ⟨r_2,E_r_2,h⟩:=bind_some h
 refine zF (m:=0) (al:=false) (r:=Enc.enc (r_2:Bool)) [Enc.enc (x_1:GR)] (ze (v:=gV x_1) h5 rfl (Enc.erase_enc (x_1:GR)) zx) (H.c19 _ _ E_r_2) H.g19 rfl rfl rfl rfl (g1 6 (jb (!r_2)) (rf (jb r_2)) fun h7=>gq (.nsq (zk (t:=(!r_2)) h7 h (fun h=>?_) (fun h=>?_))))
 · refine .seq (rg (g0 nI fun h2=>g0 (jb false) fun h3=>gq (.nsq (.ret ?_))))
   have hr:=Option.some.inj h
   subst hr
   exact rrB (zn h2) (zn h3) (Yo (Xd (xe (vA (o:=(.nil:NL Int)) (t:=.nl)) (xe (vD (x:=(false:Bool))) uj))))
 refine .skip (.nsq (.seq (zq (zS ?_))))
 refine ez [(1,_),(2,_),(3,_),(4,_)] ⟨za rfl rfl (zf rfl mIE),za h2 rfl rfl,za h3 rfl mb,zc rfl⟩ ?_
 rintro s ⟨h1,h2,h3,h4⟩
 refine g1 1 (gV x_1) h1 fun h8=>?_
 obtain ⟨r_3,E_r_3,h⟩:=bind_some h
 refine zF (m:=0) (al:=false) (r:=Enc.enc (r_3:(S1 LI))) [Enc.enc (x_1:GR)] (ze (v:=gV x_1) h8 rfl (Enc.erase_enc (x_1:GR)) zx) (H.c20 _ _ E_r_3) H.g20 rfl rfl rfl rfl (xk h4 (yb (.agg [eL r_3.a]) (zw rfl rfl) (zw rfl rfl) (wj (by first | rfl | simp [V.toks,V.tokss,Enc.toks_enc,ya])) (gz [(2,nI),(3,jb false),(4,.ref (.bx 4) 0 [] (.agg [eL r_3.a]))] ⟨zb h2 rfl,zb h3 rfl,zb rfl rfl⟩ ?_)))
 rintro s ⟨h2,h3,h4⟩
 refine .nsq (.seq (rg (g1 4 (.agg [eL r_3.a]) h4 fun h10=>g1 4 (.agg [eL r_3.a]) h4 fun h11=>?_)))
 obtain ⟨r_4,E_r_4,h⟩:=bind_some h
 refine zF (m:=0) (al:=true) (r:=eL r_4) [Enc.enc (r_3:(S1 LI))] (ze (v:=.agg [eL r_3.a]) h11 rfl (Enc.erase_enc (r_3:(S1 LI))) zx) (H.c25 _ _ E_r_4) H.g25 (Jq (WQ (v:=.agg [eL r_3.a]) h11 rfl rfl Jw)) rfl rfl rfl (g1 4 (.agg [eL r_3.a]) h4 fun h13=>g1 13 (.fn 26 [.agg [eL r_3.a]] []) h13 fun h14=>?_)
 obtain ⟨r_5,E_r_5,h⟩:=bind_some h
 refine zF (m:=0) (al:=false) (r:=eL r_5) [Enc.enc (r_3:(S1 LI)),eL r_4,Arg.arg ((Cl.mk (r_3,()) ():(Cl 26 ((S1 LI)×Unit) Unit)):(Cl 26 ((S1 LI)×Unit) Unit))] (ze (v:=.agg [eL r_3.a]) h10 rfl (Enc.erase_enc (r_3:(S1 LI))) (ze (v:=eL r_4) rfl rfl (Enc.erase_enc (r_4:LI)) (ze (v:=.fn 26 [.agg [eL r_3.a]] []) h14 rfl (Uj (xN (Enc.erase_enc (r_3:(S1 LI))) xf) xf) zx))) (H.c24s1 _ _ _ _ E_r_5) H.g24s1 rfl rfl rfl rfl (gm (rf (eL r_5)) fun h2=>g0 (jb true) fun h3=>gq (.nsq (.ret ?_)))
 have hr:=Option.some.inj h
 subst hr
 exact rrB (zn h2) (zn h3) (Yo (Xd (xe (vD (x:=(r_5:LI))) (xe (vD (x:=(true:Bool))) uj))))
end
def e8 (F:Nat):Ent:=ent 8 (fun (x:(GR×Unit))=>y8 F x.1) (fun (r:(LI×Bool))=>(.tup [eL r.1,Enc.enc (r.2:Bool)])) 0 true []
abbrev C8 (D:List V→Option V) (F:Nat):Prop:=∀ (x0:GR) r,y8 F x0=some r→D [Enc.enc x0]=some (.tup [eL r.1,Enc.enc (r.2:Bool)])
theorem p8 {F:Nat}:C8 (e8 F).den F:=fun x0 _ h=>zN (x0,()) h
theorem o8 {D:Den} {σ:Sig} {F:Nat} (hF:zy Try.prog D σ) (H:H8 D σ F):(e8 F).Ok Try.prog:=by
 refine yl (f:=8) (show unk 8=8 from rfl) (fun args r h=>?_) ⟨Try.f8,Try.func8,rfl,rfl⟩
 obtain ⟨⟨x0,_⟩,y,rfl,hy,rfl⟩:=zM h
 exact zm hF (by kernel_rfl) Try.func8 rfl c8 (show 1≤Try.f8.ntmps by decide) (t8 H x0 _ rfl hy)
def zqr:AC:=(.cond (.t 14) .skip (.exit 0))
def zlj:AC:=(.cond (.t 41) .skip (.exit 2))
def zlr:AC:=(.block 3 (.reg [] [jm 42 6,jv 43 (.bin .add (.t 42) (jn 1)),jm 6 43] []))
def Ns:AC:=(.seq (.seq (.reg [.clr [22]] [jm 15 4,jm 16 6,jx 17 (.call (jf 52) [.t 15,.t 16]),jm 18 17,jg 19 18 false (.load (.ag [.s,.p]) (.t 1)),jg 20 18 false (.mov (.t 4)),jg 21 18 false (.mov (.t 6)),.mk (some 22) (some (18,false)) false (.callO (jf 53) [.t 19,.t 20,.t 21]),jg 23 18 false (.len (.t 22)),jg 24 18 false (.mov (.t 3)),jg 25 18 false (.idx (.t 24) (jn 0) 1),jg 26 18 false (.load .s (.t 25)),jg 27 18 false (.bin .gtr (.t 23) (.t 26)),jv 28 (.pick (.t 18) kt (.t 27)),jm 29 28,jg 30 29 false (.mov (.t 3)),jg 31 29 false (.mov (.t 5)),jg 32 29 false (.mov (.t 6)),jg 33 29 false (.bin .shl (jn 1) (.t 32)),jg 34 29 false (.bin .add (.t 31) (.t 33)),jg 35 29 false (.idx (.t 30) (.t 34) 1),jg 36 29 false (.load .s (.t 35)),jg 37 29 false (.mov (.t 3)),jg 38 29 false (.idx (.t 37) (jn 0) 1),jg 39 29 false (.load .s (.t 38)),jg 40 29 false (.bin .gtr (.t 36) (.t 39)),jv 41 (.pick (.t 29) kt (.t 40))] []) zlj) zlr)
def zp6:AC:=(.reg [] [jm 48 5,jm 49 6,jv 50 (.bin .shl (jn 1) (.t 49)),jv 51 (.bin .add (.t 48) (.t 50)),jm 5 51] [])
def zeM:AC:=(.seq (.reg [.clr [46,47]] [jm 44 4,jm 45 6,jx 46 (.lit i0 1 [(0,0,.t 45)]),jx 47 (.app .s (.t 44) (.t 46)),jm 4 47] [.home 47 4]) zp6)
def zq9:AC:=(.seq (.block 2 (.loop Ns)) zeM)
def zr5:AC:=(.block 1 (.seq (.reg [] [jv 6 (.mov (jn 0))] []) zq9))
def Jf:AC:=(.seq (.seq (.reg [] [jm 10 4,jv 11 (.len (.t 10)),jv 12 (.fld (.t 1) 0 0),jv 13 (.load .s (.t 12)),jv 14 (.bin .lss (.t 11) (.t 13))] []) zqr) zr5)
def Jt:AC:=(.seq (.reg [] [jm 52 4,jm 2 52] [.home 4 2]) .ret)
def znb:AC:=(.seq (.block 0 (.loop Jf)) Jt)
def znE:AC:=(.seq (.reg [] [jv 5 (.mov (jn 0))] []) znb)
def zmF:AC:=(.seq (.reg [.clr [9]] [jx 9 (.lit i0 0 []),jm 4 9] [.home 9 4]) znE)
def znl:AC:=(.seq (.reg [] [jv 7 (.load (.ag [.s,.p]) (.t 1)),jx 8 (.call (jf 49) [.t 7]),jm 3 8] []) zmF)
def A27:AC:=(.seq (.reg [.clr [1]] [jx 1 (.box (.t 0)),jv 2 (.mov (.k (.sl .nl .s 0 [])))] []) znl)
def ztA:List An:=[⟨0,[.clr [1]],[],[],[]⟩,⟨2,[.clr [9]],[],[],[.home 9 4]⟩,⟨6,[.clr [22]],[],[1007],[]⟩,⟨8,[.clr [46,47]],[],[],[.home 47 4]⟩,⟨10,[],[],[],[.home 4 2]⟩]
theorem c27:cC Try.prog Try.f27.ntmps ztA (Try.f27.body.getD .skip)=some A27:=by kernel_rfl
structure H27 (D:Den) (σ:Sig) (F:Nat):Prop where
 c49:C49 (D 49) F
 g49:σ 49=some (0,false)
 c52:C52 (D 52) F
 g52:σ 52=some (0,false)
 c53o:zl9 (D 1000000053) F
 g53o:σ 1000000053=some (1,false)
abbrev R27 (r:LI):(Nat→V)→Prop:=RR Try.prog [.tmp 2] 0 false (eL r)
section
variable {D:Den} {σ:Sig} {F:Nat} {r:LI}
def uF (F:Nat) (x_1:GR) (r_2:LI) (x_45:LI) (x_46:Int) (x_102:Int) (c1:LI→Int→Option LI) (c4:Int→Option LI) (x_122:Bool):Option LI:=
 bif x_122 then
  c4 (w64 (x_102 + 1))
 else
  (wS x_45 [x_102]).bind fun ap_123=>
  (vR .i64 1 x_102).bind fun q_124=>
  c1 ap_123 (w64 (x_46 + q_124))
theorem MM (H:H27 D σ F) (x_1:GR) (r_2:LI) (x_45:LI) (x_46:Int) (x_102:Int) (c1:LI→Int→Option LI) (Hc1:∀ (x_45:LI) (x_46:Int) (s:Nat→V),zl [(1,bG 1 x_1),(2,nI),(3,eL r_2),(4,oI 4 [] (.of x_45)),(5,ji x_46)] s→c1 x_45 x_46=some r→Run D σ (R27 r) (.run Jf [.lp Jf,.bk 0,.sq Jt]) s) (c4:Int→Option LI) (Hc4:∀ (x_102:Int) (s:Nat→V),zl [(1,bG 1 x_1),(2,nI),(3,eL r_2),(4,oI 4 [] (.of x_45)),(5,ji x_46),(6,ji x_102)] s→c4 x_102=some r→Run D σ (R27 r) (.run Ns [.lp Ns,.bk 2,.sq zeM,.bk 1,.lp Jf,.bk 0,.sq Jt]) s) (x_122:Bool) (s:Nat→V) (hs:zl [(1,bG 1 x_1),(2,nI),(3,eL r_2),(4,oI 4 [] (.of x_45)),(5,ji x_46),(6,ji x_102),(41,jb x_122)] s) (h:uF F x_1 r_2 x_45 x_46 x_102 c1 c4 x_122=some r):Run D σ (R27 r) (.nrm [.sq zlj,.sq zlr,.lp Ns,.bk 2,.sq zeM,.bk 1,.lp Jf,.bk 0,.sq Jt]) s:=by
 unfold uF at h
 obtain ⟨h1,h2,h3,h4,h5,h6,h41⟩:=hs
 refine .nsq (zk (t:=x_122) h41 h (fun h=>?_) (fun h=>?_))
 · refine .skip (.nsq (.block (rg (gm h6 fun h42=>g1 42 (ji (w64 (x_102 + 1))) h42 fun h43=>gm h43 fun h6=>gq (.nbk (.nlp ?_))))))
   exact Hc4 (w64 (x_102 + 1)) _ ⟨h1,h2,h3,h4,h5,h6⟩ h
 refine .exit (.esq (.elp (.ebk (.nsq (.seq (zq (zS ?_)))))))
 refine ez [(1,_),(2,_),(3,_),(4,_),(5,_),(6,_),(46,_),(47,_)] ⟨za h1 rfl (zf rfl mIE),za h2 rfl rfl,za h3 rfl me,za h4 rfl (zj (r:=4) (p:=[]) rfl rfl),za h5 rfl mi,za h6 rfl mi,zc rfl,zc rfl⟩ ?_
 rintro s ⟨h1,h2,h3,h4,h5,h6,h46,h47⟩
 refine gm h4 fun h44=>gm h6 fun h45=>xT [(45,ji x_102)] [Enc.enc (x_102:Int)] h45 rfl rfl h46 ?_
 obtain ⟨ap_123,E_ap_123,h⟩:=bind_some h
 refine Xz (q:=4) (p:=[]) (o:=.of (x_45:LI)) (ys:=([x_102]:LI)) (t2:=.at 46 []) (lo2:=0) h44 rfl rfl h47 (ZJ (o:=.of (x_45:LI)) E_ap_123 trivial) (fun s_20 ha_20=>gm (rf (oI 47 [] (.of ap_123))) fun h4=>yQ (yC (r:=47) (x:=4) (v:=_) h4 rfl (fun s_21 hg_21=>?_)))
 refine ez [(1,bG 1 x_1),(2,nI),(3,eL r_2),(4,oI 4 [] (.of ap_123)),(5,ji x_46),(6,ji x_102)] ⟨hg_21 1 _ _ (show s_20 1=(bG 1 x_1) from zJ ha_20 h1 (zf rfl mIE)) (zf rfl mIE),hg_21 2 _ nI (show s_20 2=nI from zJ ha_20 h2 rfl) rfl,hg_21 3 _ _ (show s_20 3=(eL r_2) from zJ ha_20 h3 me) me,hg_21 4 _ _ h4 (zj (r:=47) (p:=[]) rfl rfl),hg_21 5 _ _ (show s_20 5=(ji x_46) from zJ ha_20 h5 mi) mi,hg_21 6 _ _ (show s_20 6=(ji x_102) from zJ ha_20 h6 mi) mi⟩ ?_
 rintro s ⟨h1,h2,h3,h4,h5,h6⟩
 refine .nsq (rg (gm h5 fun h48=>gm h6 fun h49=>?_))
 obtain ⟨q_124,E_q_124,h⟩:=bind_some h
 refine gv (ji q_124) (wP rfl h49 E_q_124) fun h50=>g2 48 50 (ji (w64 (x_46 + q_124))) h48 h50 fun h51=>gm h51 fun h5=>gq (.nbk (.nlp ?_))
 exact Hc1 ap_123 (w64 (x_46 + q_124)) _ ⟨h1,h2,h3,h4,h5⟩ h
def wt (F:Nat) (x_1:GR) (r_2:LI) (x_45:LI) (x_46:Int) (c1:LI→Int→Option LI):Nat→Int→Option LI
 | 0,_=>none
 | k + 1,x_102=>
   (wC F x_45 x_102).bind fun r_125=>
   bif r_125 then
    uF F x_1 r_2 x_45 x_46 x_102 c1 (wt F x_1 r_2 x_45 x_46 c1 k) true
   else
    (vC F x_1 x_45 x_102).bind fun r_126=>
    (idx r_2 0).bind fun e_127=>
    bif decide ((r_126.list.length:Int) > e_127) then
     uF F x_1 r_2 x_45 x_46 x_102 c1 (wt F x_1 r_2 x_45 x_46 c1 k) true
    else
     (vR .i64 1 x_102).bind fun q_128=>
     (idx r_2 (w64 (x_46 + q_128))).bind fun e_129=>
     (idx r_2 0).bind fun e_130=>
     uF F x_1 r_2 x_45 x_46 x_102 c1 (wt F x_1 r_2 x_45 x_46 c1 k) (decide (e_129 > e_130))
theorem zhL (H:H27 D σ F) (x_1:GR) (r_2:LI) (x_45:LI) (x_46:Int) (c1:LI→Int→Option LI) (Hc1:∀ (x_45:LI) (x_46:Int) (s:Nat→V),zl [(1,bG 1 x_1),(2,nI),(3,eL r_2),(4,oI 4 [] (.of x_45)),(5,ji x_46)] s→c1 x_45 x_46=some r→Run D σ (R27 r) (.run Jf [.lp Jf,.bk 0,.sq Jt]) s):∀ (k:Nat) (x_102:Int) (s:Nat→V),zl [(1,bG 1 x_1),(2,nI),(3,eL r_2),(4,oI 4 [] (.of x_45)),(5,ji x_46),(6,ji x_102)] s→wt F x_1 r_2 x_45 x_46 c1 k x_102=some r→Run D σ (R27 r) (.run Ns [.lp Ns,.bk 2,.sq zeM,.bk 1,.lp Jf,.bk 0,.sq Jt]) s:=by
 intro k
 induction k with
 | zero=>intro x_102 s _ h;exact nm h
 | succ k ih=>
   intro x_102 s hs h
   rw [wt] at h
   obtain ⟨h1,h2,h3,h4,h5,h6⟩:=hs
   refine .seq (.seq (zq (zS ?_)))
   refine ez [(1,_),(2,_),(3,_),(4,_),(5,_),(6,_),(22,_)] ⟨za h1 rfl (zf rfl mIE),za h2 rfl rfl,za h3 rfl me,za h4 rfl (zj (r:=4) (p:=[]) rfl rfl),za h5 rfl mi,za h6 rfl mi,zc rfl⟩ ?_
   rintro s ⟨h1,h2,h3,h4,h5,h6,h22⟩
   refine gm h4 fun h15=>gm h6 fun h16=>?_
   obtain ⟨r_125,E_r_125,h⟩:=bind_some h
   refine zF (m:=0) (al:=false) (r:=Enc.enc (r_125:Bool)) [eL x_45,Enc.enc (x_102:Int)] (ze (v:=oI 4 [] (.of x_45)) h15 rfl (vm (o:=.of x_45)) (ze (v:=ji x_102) h16 rfl rfl zx)) (H.c52 _ _ _ E_r_125) H.g52 rfl rfl rfl rfl (gm (rf (jb r_125)) fun h18=>zW (c:=r_125) h (fun hg4 h=>?_) (fun hg4 h=>?_))
   · iterate 9 refine z9 (ct h18 hg4) ?_
     refine g2 18 27 (jb true) (ct h18 hg4) (rf (.tup [])) fun h28=>gm h28 fun h29=>z9 h29 ?_
     iterate 10 refine z9 h29 ?_
     refine g2 29 40 (jb true) h29 (rf (.tup [])) fun h41=>gz [(1,_),(2,_),(3,_),(4,_),(5,_),(6,_),(41,_)] ⟨h1,h2,h3,h4,h5,h6,h41⟩ ?_
     rintro s ⟨h1,h2,h3,h4,h5,h6,h41⟩
     exact MM H x_1 r_2 x_45 x_46 x_102 c1 Hc1 (wt F x_1 r_2 x_45 x_46 c1 k) ih true _ ⟨h1,h2,h3,h4,h5,h6,h41⟩ h
   refine zg (ct h18 hg4) (g1 1 (gV x_1) h1 fun h19=>zg (ct h18 hg4) (gm h4 fun h20=>zg (ct h18 hg4) (gm h6 fun h21=>?_)))
   obtain ⟨r_126,E_r_126,h⟩:=bind_some h
   refine zg (ct h18 hg4) (ZA (m:=1) (al:=false) (r:=zi .sh (r_126:NL Int)) (v:=oI 22 [] r_126) (kk:=1000000053) [Enc.enc (x_1:GR),eL x_45,Enc.enc (x_102:Int)] (ze (v:=gV x_1) h19 rfl (Enc.erase_enc (x_1:GR)) (ze (v:=oI 4 [] (.of x_45)) h20 rfl (vm (o:=.of x_45)) (ze (v:=ji x_102) h21 rfl rfl zx))) (H.c53o _ _ _ _ E_r_126) H.g53o rfl vf vX vv h22 (zg (ct h18 hg4) (gv (ji (r_126.list.length:Int)) (YH (o:=r_126) rfl) fun h23=>zg (ct h18 hg4) (gm h3 fun h24=>?_))))
   obtain ⟨e_127,E_e_127,h⟩:=bind_some h
   refine zg (ct h18 hg4) (gv (.ref .sh 0 [] (ji e_127)) (yz (t:=.sh) (lo:=0) (xs:=r_2) h24 rfl E_e_127 rfl rfl) fun h25=>zg (ct h18 hg4) (g1 25 (ji e_127) h25 fun h26=>zg (ct h18 hg4) (g2 23 26 (jb (decide ((r_126.list.length:Int) > e_127))) h23 h26 fun h27=>g2 18 27 (jb (decide ((r_126.list.length:Int) > e_127))) (ct h18 hg4) h27 fun h28=>gm h28 fun h29=>zW (c:=decide ((r_126.list.length:Int) > e_127)) h (fun hg15 h=>?_) (fun hg15 h=>?_))))
   · iterate 11 refine z9 (ct h29 hg15) ?_
     refine g2 29 40 (jb true) (ct h29 hg15) (rf (.tup [])) fun h41=>gz [(1,_),(2,_),(3,_),(4,_),(5,_),(6,_),(41,_)] ⟨h1,h2,h3,h4,h5,h6,h41⟩ ?_
     rintro s ⟨h1,h2,h3,h4,h5,h6,h41⟩
     exact MM H x_1 r_2 x_45 x_46 x_102 c1 Hc1 (wt F x_1 r_2 x_45 x_46 c1 k) ih true _ ⟨h1,h2,h3,h4,h5,h6,h41⟩ h
   refine zg (ct h29 hg15) (gm h3 fun h30=>zg (ct h29 hg15) (gm h5 fun h31=>zg (ct h29 hg15) (gm h6 fun h32=>?_)))
   obtain ⟨q_128,E_q_128,h⟩:=bind_some h
   refine zg (ct h29 hg15) (gv (ji q_128) (wP rfl h32 E_q_128) fun h33=>zg (ct h29 hg15) (g2 31 33 (ji (w64 (x_46 + q_128))) h31 h33 fun h34=>?_))
   obtain ⟨e_129,E_e_129,h⟩:=bind_some h
   refine zg (ct h29 hg15) (gv (.ref .sh 0 [] (ji e_129)) (yz (t:=.sh) (lo:=0) (xs:=r_2) h30 h34 E_e_129 rfl rfl) fun h35=>zg (ct h29 hg15) (g1 35 (ji e_129) h35 fun h36=>zg (ct h29 hg15) (gm h3 fun h37=>?_)))
   obtain ⟨e_130,E_e_130,h⟩:=bind_some h
   refine zg (ct h29 hg15) (gv (.ref .sh 0 [] (ji e_130)) (yz (t:=.sh) (lo:=0) (xs:=r_2) h37 rfl E_e_130 rfl rfl) fun h38=>zg (ct h29 hg15) (g1 38 (ji e_130) h38 fun h39=>zg (ct h29 hg15) (g2 36 39 (jb (decide (e_129 > e_130))) h36 h39 fun h40=>g2 29 40 (jb (decide (e_129 > e_130))) (ct h29 hg15) h40 fun h41=>gz [(1,_),(2,_),(3,_),(4,_),(5,_),(6,_),(41,_)] ⟨h1,h2,h3,h4,h5,h6,h41⟩ ?_)))
   rintro s ⟨h1,h2,h3,h4,h5,h6,h41⟩
   exact MM H x_1 r_2 x_45 x_46 x_102 c1 Hc1 (wt F x_1 r_2 x_45 x_46 c1 k) ih (decide (e_129 > e_130)) _ ⟨h1,h2,h3,h4,h5,h6,h41⟩ h
def w6 (F:Nat) (x_1:GR) (r_2:LI) :Nat→LI→Int→Option LI
 | 0,_,_=>none
 | k + 1,x_45,x_46=>
   bif decide ((x_45.length:Int) < x_1.1) then
    wt F x_1 r_2 x_45 x_46 (w6 F x_1 r_2 k) F 0
   else
    some x_45
theorem ziM (H:H27 D σ F) (x_1:GR) (r_2:LI) :∀ (k:Nat) (x_45:LI) (x_46:Int) (s:Nat→V),zl [(1,bG 1 x_1),(2,nI),(3,eL r_2),(4,oI 4 [] (.of x_45)),(5,ji x_46)] s→w6 F x_1 r_2 k x_45 x_46=some r→Run D σ (R27 r) (.run Jf [.lp Jf,.bk 0,.sq Jt]) s:=by
 intro k
 induction k with
 | zero=>intro x_45 x_46 s _ h;exact nm h
 | succ k ih=>
   intro x_45 x_46 s hs h
   rw [w6] at h
   obtain ⟨h1,h2,h3,h4,h5⟩:=hs
   refine .seq (.seq (rg (gm h4 fun h10=>gv (ji (x_45.length:Int)) (YH (o:=.of x_45) h10) fun h11=>g1 1 (.ref (.bx 1) 0 [0] (ji x_1.1)) h1 fun h12=>g1 12 (ji x_1.1) h12 fun h13=>g2 11 13 (jb (decide ((x_45.length:Int) < x_1.1))) h11 h13 fun h14=>gq (.nsq (zk (t:=decide ((x_45.length:Int) < x_1.1)) h14 h (fun h=>?_) (fun h=>?_))))))
   · refine .skip (.nsq (.block (.seq (rg (g0 (ji 0) fun h6=>gq (.nsq (.seq (.block (.loop ?_)))))))))
     exact zhL H x_1 r_2 x_45 x_46 (w6 F x_1 r_2 k) ih F 0 _ ⟨h1,h2,h3,h4,h5,h6⟩ h
   refine .exit (.esq (.elp (.ebk (.nsq (.seq (rg (gm h4 fun h52=>gm h52 fun h2=>yQ (yC (r:=4) (x:=2) (v:=_) h2 rfl (fun s_22 hg_22=>?_)))))))))
   refine ez [(2,oI 2 [] (.of x_45))] (hg_22 2 _ _ h2 (zj (r:=4) (p:=[]) rfl rfl)) ?_
   rintro s h2
   refine .nsq (.ret ?_)
   have hr:=Option.some.inj h
   subst hr
   exact rrA (zn h2) (vh (vA (o:=.of x_45)) (xB rfl))
def Wi (F:Nat) (x_1:GR):Option LI:=
 (Z1 F x_1).bind fun r_2=>
 w6 F x_1 r_2 F [] 0
theorem t27 (H:H27 D σ F) (x_1:GR) (s:Nat→V) (hs:zl [(0,gV x_1)] s) (h:Wi F x_1=some r):Run D σ (R27 r) (.run A27 []) s:=by
 unfold Wi at h
 have h0:=hs
 refine .seq (zq (zS ?_))
 refine ez [(0,_),(1,_)] ⟨za h0 rfl mIE,zc rfl⟩ ?_
 rintro s ⟨h0,h1⟩
 refine xz (gV x_1) (zw h0 rfl) h1 rfl (g0 nI fun h2=>gq (.nsq (.seq (rg (g1 1 (gV x_1) (rf (bG 1 x_1)) fun h7=>?_)))))
 obtain ⟨r_2,E_r_2,h⟩:=bind_some h
 refine zF (m:=0) (al:=false) (r:=eL r_2) [Enc.enc (x_1:GR)] (ze (v:=gV x_1) h7 rfl (Enc.erase_enc (x_1:GR)) zx) (H.c49 _ _ E_r_2) H.g49 rfl rfl rfl rfl (gm (rf (eL r_2)) fun h3=>gq (.nsq (.seq (zq (zS ?_)))))
 refine ez [(1,_),(2,_),(3,_),(9,_)] ⟨za rfl rfl (zf rfl mIE),za h2 rfl rfl,za h3 rfl me,zc rfl⟩ ?_
 rintro s ⟨h1,h2,h3,h9⟩
 refine xT [] [] trivial rfl rfl h9 (gm (rf (oI 9 [] (.of []))) fun h4=>yQ (yC (r:=9) (x:=4) (v:=_) h4 rfl (fun s_3 hg_3=>?_)))
 refine ez [(1,bG 1 x_1),(2,nI),(3,eL r_2),(4,oI 4 [] (.of []))] ⟨hg_3 1 _ _ h1 (zf rfl mIE),hg_3 2 _ _ h2 rfl,hg_3 3 _ _ h3 me,hg_3 4 _ _ h4 (zj (r:=9) (p:=[]) rfl rfl)⟩ ?_
 rintro s ⟨h1,h2,h3,h4⟩
 refine .nsq (.seq (rg (g0 (ji 0) fun h5=>gq (.nsq (.seq (.block (.loop ?_)))))))
 exact ziM H x_1 r_2 F [] 0 _ ⟨h1,h2,h3,h4,h5⟩ h
end
def e27 (F:Nat):Ent:=ent 27 (fun (x:(GR×Unit))=>Wi F x.1) (fun (r:LI)=>(eL r)) 0 false []
abbrev C27 (D:List V→Option V) (F:Nat):Prop:=∀ (x0:GR) r,Wi F x0=some r→D [Enc.enc x0]=some (eL r)
theorem p27 {F:Nat}:C27 (e27 F).den F:=fun x0 _ h=>zN (x0,()) h
theorem o27 {D:Den} {σ:Sig} {F:Nat} (hF:zy Try.prog D σ) (H:H27 D σ F):(e27 F).Ok Try.prog:=by
 refine yl (f:=27) (show unk 27=27 from rfl) (fun args r h=>?_) ⟨Try.f27,Try.func27,rfl,rfl⟩
 obtain ⟨⟨x0,_⟩,y,rfl,hy,rfl⟩:=zM h
 exact zm hF (by kernel_rfl) Try.func27 rfl c27 (show 1≤Try.f27.ntmps by decide) (t27 H x0 _ rfl hy)
def zuJ:AC:=(.cond (.t 6) (.seq (.reg [.clr [7]] [jx 7 (.lit i0 0 []),jm 2 7,jv 3 (.mov kf)] [.home 7 2]) .ret) .skip)
def zuD:AC:=(.seq (.reg [] [jv 8 (.load (.ag [.s,.p]) (.t 1)),jx 9 (.call (jf 27) [.t 8]),jm 2 9,jv 3 (.mov kt)] []) .ret)
def zuf:AC:=(.seq (.seq (.reg [] [jv 4 (.load (.ag [.s,.p]) (.t 1)),jx 5 (.call (jf 22) [.t 4]),jv 6 (.un .not (.t 5))] []) zuJ) zuD)
def A9:AC:=(.seq (.reg [.clr [1]] [jx 1 (.box (.t 0)),jv 2 (.mov (.k (.sl .nl .s 0 []))),jv 3 (.mov kf)] []) zuf)
def an9:List An:=[⟨0,[.clr [1]],[],[],[]⟩,⟨2,[.clr [7]],[],[],[.home 7 2]⟩]
theorem c9:cC Try.prog Try.f9.ntmps an9 (Try.f9.body.getD .skip)=some A9:=by kernel_rfl
structure H9 (D:Den) (σ:Sig) (F:Nat):Prop where
 c22:C22 (D 22) F
 g22:σ 22=some (0,false)
 c27:C27 (D 27) F
 g27:σ 27=some (0,false)
abbrev R9 (r:(LI×Bool)):(Nat→V)→Prop:=RR Try.prog [.tmp 2,.tmp 3] 0 true (.tup [eL r.1,Enc.enc (r.2:Bool)])
section
variable {D:Den} {σ:Sig} {F:Nat} {r:(LI×Bool)}
def xu (F:Nat) (x_1:GR):Option (LI×Bool):=
 (uk F x_1).bind fun r_2=>
 bif (!r_2) then
  some ([],false)
 else
  (Wi F x_1).bind fun r_3=>
  some (r_3,true)
theorem t9 (H:H9 D σ F) (x_1:GR) (s:Nat→V) (hs:zl [(0,gV x_1)] s) (h:xu F x_1=some r):Run D σ (R9 r) (.run A9 []) s:=by
 unfold xu at h
 have h0:=hs
 refine .seq (zq (zS ?_))
 refine ez [(0,_),(1,_)] ⟨za h0 rfl mIE,zc rfl⟩ ?_
 rintro s ⟨h0,h1⟩
 refine xz (gV x_1) (zw h0 rfl) h1 rfl (g0 nI fun h2=>g0 (jb false) fun h3=>gq (.nsq (.seq (.seq (rg (g1 1 (gV x_1) (rf (bG 1 x_1)) fun h4=>?_))))))
 obtain ⟨r_2,E_r_2,h⟩:=bind_some h
 refine zF (m:=0) (al:=false) (r:=Enc.enc (r_2:Bool)) [Enc.enc (x_1:GR)] (ze (v:=gV x_1) h4 rfl (Enc.erase_enc (x_1:GR)) zx) (H.c22 _ _ E_r_2) H.g22 rfl rfl rfl rfl (g1 5 (jb (!r_2)) (rf (jb r_2)) fun h6=>gq (.nsq (zk (t:=(!r_2)) h6 h (fun h=>?_) (fun h=>?_))))
 · refine .seq (zq (zS ?_))
   refine ez [(1,_),(2,_),(3,_),(7,_)] ⟨za rfl rfl (zf rfl mIE),za h2 rfl rfl,za h3 rfl mb,zc rfl⟩ ?_
   rintro s ⟨h1,h2,h3,h7⟩
   refine xT [] [] trivial rfl rfl h7 (gm (rf (oI 7 [] (.of []))) fun h2=>g0 (jb false) fun h3=>yQ (yC (r:=7) (x:=2) (v:=_) h2 rfl (fun s_5 hg_5=>?_)))
   refine ez [(1,bG 1 x_1),(2,oI 2 [] (.of [])),(3,jb false)] ⟨hg_5 1 _ _ h1 (zf rfl mIE),hg_5 2 _ _ h2 (zj (r:=7) (p:=[]) rfl rfl),hg_5 3 _ _ h3 mb⟩ ?_
   rintro s ⟨h1,h2,h3⟩
   refine .nsq (.ret ?_)
   have hr:=Option.some.inj h
   subst hr
   exact rrB (zn h2) (zn h3) (Yo (Xd (xe (vA (o:=.of [])) (xe (vD (x:=(false:Bool))) uj))))
 refine .skip (.nsq (.seq (rg (g1 1 (gV x_1) (rf (bG 1 x_1)) fun h8=>?_))))
 obtain ⟨r_3,E_r_3,h⟩:=bind_some h
 refine zF (m:=0) (al:=false) (r:=eL r_3) [Enc.enc (x_1:GR)] (ze (v:=gV x_1) h8 rfl (Enc.erase_enc (x_1:GR)) zx) (H.c27 _ _ E_r_3) H.g27 rfl rfl rfl rfl (gm (rf (eL r_3)) fun h2=>g0 (jb true) fun h3=>gq (.nsq (.ret ?_)))
 have hr:=Option.some.inj h
 subst hr
 exact rrB (zn h2) (zn h3) (Yo (Xd (xe (vD (x:=(r_3:LI))) (xe (vD (x:=(true:Bool))) uj))))
end
def e9 (F:Nat):Ent:=ent 9 (fun (x:(GR×Unit))=>xu F x.1) (fun (r:(LI×Bool))=>(.tup [eL r.1,Enc.enc (r.2:Bool)])) 0 true []
abbrev C9 (D:List V→Option V) (F:Nat):Prop:=∀ (x0:GR) r,xu F x0=some r→D [Enc.enc x0]=some (.tup [eL r.1,Enc.enc (r.2:Bool)])
theorem p9 {F:Nat}:C9 (e9 F).den F:=fun x0 _ h=>zN (x0,()) h
theorem o9 {D:Den} {σ:Sig} {F:Nat} (hF:zy Try.prog D σ) (H:H9 D σ F):(e9 F).Ok Try.prog:=by
 refine yl (f:=9) (show unk 9=9 from rfl) (fun args r h=>?_) ⟨Try.f9,Try.func9,rfl,rfl⟩
 obtain ⟨⟨x0,_⟩,y,rfl,hy,rfl⟩:=zM h
 exact zm hF (by kernel_rfl) Try.func9 rfl c9 (show 1≤Try.f9.ntmps by decide) (t9 H x0 _ rfl hy)
def zs0:AC:=(.seq (.reg [] [jv 5 (.fld (.t 2) 0 0),jv 6 (.load .p (.t 5)),jm 7 1,jv 8 (.idx (.t 6) (.t 7) 1),jv 9 (.load .s (.t 8)),jm 10 1,jv 11 (.bin .shl (jn 1) (.t 10)),jv 12 (.bin .or (.t 9) (.t 11)),jm 4 12] []) .ret)
def A56:AC:=(.seq (.reg [.clr [2]] [jx 2 (.box (.t 0)),jv 4 (.mov (jn 0))] []) zs0)
def zui:List An:=[⟨0,[.clr [2]],[],[],[]⟩]
theorem c56:cC Try.prog Try.f56.ntmps zui (Try.f56.body.getD .skip)=some A56:=by kernel_rfl
structure H56 (D:Den) (σ:Sig) (F:Nat):Prop where
 mk ::
abbrev R56 (r:Int):(Nat→V)→Prop:=RR Try.prog [.tmp 4] 0 false (Enc.enc (r:Int))
section
variable {D:Den} {σ:Sig} {F:Nat} {r:Int}
def Zh (F:Nat) (x_1:(S1 LI)) (x_2:Int):Option Int:=
 (idx x_1.a x_2).bind fun e_3=>
 (vR .i64 1 x_2).bind fun q_4=>
 some (ior .i64 e_3 q_4)
theorem t56 (H:H56 D σ F) (x_1:(S1 LI)) (x_2:Int) (s:Nat→V) (hs:zl [(0,.agg [eL x_1.a]),(1,ji x_2)] s) (h:Zh F x_1 x_2=some r):Run D σ (R56 r) (.run A56 []) s:=by
 unfold Zh at h
 obtain ⟨h0,h1⟩:=hs
 refine .seq (zq (zS ?_))
 refine ez [(0,_),(1,_),(2,_)] ⟨za h0 rfl (zA (zd me zh)),za h1 rfl mi,zc rfl⟩ ?_
 rintro s ⟨h0,h1,h2⟩
 refine xz (.agg [eL x_1.a]) (zw h0 rfl) h2 rfl (g0 (ji 0) fun h4=>gq (.nsq (.seq (rg (g1 2 (.ref (.bx 2) 0 [0] (eL x_1.a)) (rf (.ref (.bx 2) 0 [] (.agg [eL x_1.a]))) fun h5=>g1 5 (eL x_1.a) h5 fun h6=>gm h1 fun h7=>?_)))))
 obtain ⟨e_3,E_e_3,h⟩:=bind_some h
 refine gv (.ref .sh 0 [] (ji e_3)) (yz (t:=.sh) (lo:=0) (xs:=x_1.a) h6 h7 E_e_3 rfl rfl) fun h8=>g1 8 (ji e_3) h8 fun h9=>gm h1 fun h10=>?_
 obtain ⟨q_4,E_q_4,h⟩:=bind_some h
 refine gv (ji q_4) (wP rfl h10 E_q_4) fun h11=>g2 9 11 (ji (ior .i64 e_3 q_4)) h9 h11 fun h12=>gm h12 fun h4=>gq (.nsq (.ret ?_))
 have hr:=Option.some.inj h
 subst hr
 exact rrA (zn h4) rfl
end
def e56 (F:Nat):Ent:=ent 56 (fun (x:((S1 LI)×Int×Unit))=>Zh F x.1 x.2.1) (fun (r:Int)=>(Enc.enc (r:Int))) 0 false []
abbrev C56 (D:List V→Option V) (F:Nat):Prop:=∀ (x0:(S1 LI)) (x1:Int) r,Zh F x0 x1=some r→D [Enc.enc x0,Enc.enc x1]=some (Enc.enc (r:Int))
theorem p56 {F:Nat}:C56 (e56 F).den F:=fun x0 x1 _ h=>zN (x0,x1,()) h
theorem o56 {D:Den} {σ:Sig} {F:Nat} (hF:zy Try.prog D σ) (H:H56 D σ F):(e56 F).Ok Try.prog:=by
 refine yl (f:=56) (show unk 56=56 from rfl) (fun args r h=>?_) ⟨Try.f56,Try.func56,rfl,rfl⟩
 obtain ⟨⟨x0,x1,_⟩,y,rfl,hy,rfl⟩:=zM h
 exact zm hF (by kernel_rfl) Try.func56 rfl c56 (show 2≤Try.f56.ntmps by decide) (t56 H x0 x1 _ ⟨rfl,rfl⟩ hy)
def zsk:AC:=(.seq (.reg [] [jv 5 (.load .s (.t 1)),jv 6 (.load (.ag [.p]) (.t 2)),jm 7 0,jx 8 (.call (jf 56) [.t 6,.t 7]),jv 9 (.bin .andNot (.t 5) (.t 8)),jv 10 (.bin .neq (.t 9) (jn 0)),jm 4 10] []) .ret)
def A55:AC:=(.seq (.reg [] [jv 4 (.mov kf)] []) zsk)
def ztI:List An:=[]
theorem c55:cC Try.prog Try.f55.ntmps ztI (Try.f55.body.getD .skip)=some A55:=by kernel_rfl
structure H55 (D:Den) (σ:Sig) (F:Nat):Prop where
 c56:C56 (D 56) F
 g56:σ 56=some (0,false)
abbrev R55 (r:Bool):(Nat→V)→Prop:=RR Try.prog [.tmp 4] 0 false (Enc.enc (r:Bool))
section
variable {D:Den} {σ:Sig} {F:Nat} {r:Bool}
def vc (F:Nat) (x_1:Int) (rf_2:(Rf Int)) (rf_3:(Rf (S1 LI))):Option Bool:=
 (Zh F rf_3.v x_1).bind fun r_4=>
 some ((zK .i64 rf_2.v r_4) != 0)
theorem t55 (H:H55 D σ F) (x_1:Int) (rf_2:(Rf Int)) (rf_3:(Rf (S1 LI))) (s:Nat→V) (hs:zl [(0,ji x_1),(1,.ref .sh 0 [] (ji rf_2.v)),(2,.ref .sh 0 [] (.agg [eL rf_3.v.a]))] s) (h:vc F x_1 rf_2 rf_3=some r):Run D σ (R55 r) (.run A55 []) s:=by
 unfold vc at h
 obtain ⟨h0,h1,h2⟩:=hs
 refine .seq (rg (g0 (jb false) fun h4=>gq (.nsq (.seq (rg (g1 1 (ji rf_2.v) h1 fun h5=>g1 2 (.agg [eL rf_3.v.a]) h2 fun h6=>gm h0 fun h7=>?_))))))
 obtain ⟨r_4,E_r_4,h⟩:=bind_some h
 refine zF (m:=0) (al:=false) (r:=Enc.enc (r_4:Int)) [Enc.enc (rf_3.v:(S1 LI)),Enc.enc (x_1:Int)] (ze (v:=.agg [eL rf_3.v.a]) h6 rfl (Enc.erase_enc (rf_3.v:(S1 LI))) (ze (v:=ji x_1) h7 rfl rfl zx)) (H.c56 _ _ _ E_r_4) H.g56 rfl rfl rfl rfl (g2 5 8 (ji (zK .i64 rf_2.v r_4)) h5 (rf (ji r_4)) fun h9=>g1 9 (jb ((zK .i64 rf_2.v r_4) != 0)) h9 fun h10=>gm h10 fun h4=>gq (.nsq (.ret ?_)))
 have hr:=Option.some.inj h
 subst hr
 exact rrA (zn h4) rfl
end
def e55 (F:Nat):Ent:=ent 55 (fun (x:(Int×(Rf Int)×(Rf (S1 LI))×Unit))=>vc F x.1 x.2.1 x.2.2.1) (fun (r:Bool)=>(Enc.enc (r:Bool))) 0 false []
abbrev C55 (D:List V→Option V) (F:Nat):Prop:=∀ (x0:Int) (x1:(Rf Int)) (x2:(Rf (S1 LI))) r,vc F x0 x1 x2=some r→D [Enc.enc x0,Arg.arg x1,Arg.arg x2]=some (Enc.enc (r:Bool))
theorem p55 {F:Nat}:C55 (e55 F).den F:=fun x0 x1 x2 _ h=>zN (x0,x1,x2,()) h
theorem o55 {D:Den} {σ:Sig} {F:Nat} (hF:zy Try.prog D σ) (H:H55 D σ F):(e55 F).Ok Try.prog:=by
 refine yl (f:=55) (show unk 55=55 from rfl) (fun args r h=>?_) ⟨Try.f55,Try.func55,rfl,rfl⟩
 obtain ⟨⟨x0,x1,x2,_⟩,y,rfl,hy,rfl⟩:=zM h
 exact zm hF (by kernel_rfl) Try.func55 rfl c55 (show 3≤Try.f55.ntmps by decide) (t55 H x0 x1 x2 _ ⟨rfl,rfl,rfl⟩ hy)
def zjk:AC:=(.cond (.t 16) (.seq (.reg [] [jm 17 5,jm 4 17] []) .ret) .skip)
def zjJ:AC:=(.seq (.reg [] [jm 11 1,jm 12 0,jm 13 5,jv 14 (.idx (.t 12) (.t 13) 1),jv 15 (.load .s (.t 14)),jx 16 (.call (.t 11) [.t 15])] []) zjk)
def zjR:AC:=(.reg [] [jv 18 (.bin .add (.t 8) (jn 1)),jm 8 18] [])
def zj4:AC:=(.seq (.block 1 (.seq (.reg [] [jm 10 8,jm 5 10] []) zjJ)) zjR)
def zjK:AC:=(.seq (.cond (.t 9) .skip (.exit 0)) zj4)
def zaK:AC:=(.seq (.reg [] [jv 9 (.bin .lss (.t 8) (.t 7))] []) zjK)
def zdK:AC:=(.seq (.reg [] [jv 4 (.mov (jn (-1)))] []) .ret)
def zkl:AC:=(.block 0 (.loop zaK))
def zkm:AC:=(.seq (.seq (.reg [] [jm 6 0,jv 7 (.len (.t 6)),jv 8 (.mov (jn 0))] []) zkl) zdK)
def zlp:AC:=(.seq (.reg [] [jv 4 (.mov (jn 0))] []) zkm)
def zlG:List An:=[]
theorem c75s1:cC Try.prog Try.f75.ntmps zlG (Try.f75.body.getD .skip)=some zlp:=by kernel_rfl
structure zgv (D:Den) (σ:Sig) (F:Nat):Prop where
 c55:C55 (D 55) F
 g55:σ 55=some (0,false)
abbrev zk1 (r:Int):(Nat→V)→Prop:=RR Try.prog [.tmp 4] 0 false (Enc.enc (r:Int))
section
variable {D:Den} {σ:Sig} {F:Nat} {r:Int}
def z7 (F:Nat) (x_1:LI) (x_2:(Cl 55 Unit ((Rf Int)×(Rf (S1 LI))×Unit))) :Nat→Int→Option Int
 | 0,_=>none
 | k + 1,x_5=>
   bif decide (x_5 < (x_1.length:Int)) then
    (idx x_1 x_5).bind fun e_8=>
    (vc F e_8 x_2.env.1 x_2.env.2.1).bind fun r_9=>
    bif r_9 then
     some x_5
    else
     (z7 F x_1 x_2 k) (w64 (x_5 + 1))
   else
    some (-1)
theorem zcP (H:zgv D σ F) (x_1:LI) (x_2:(Cl 55 Unit ((Rf Int)×(Rf (S1 LI))×Unit))) :∀ (k:Nat) (x_5:Int) (s:Nat→V),zl [(0,eL x_1),(1,.fn 55 [] [.ref .sh 0 [] (ji x_2.env.1.v),.ref .sh 0 [] (.agg [eL x_2.env.2.1.v.a])]),(4,ji 0),(7,ji (x_1.length:Int)),(8,ji x_5)] s→z7 F x_1 x_2 k x_5=some r→Run D σ (zk1 r) (.run zaK [.lp zaK,.bk 0,.sq zdK]) s:=by
 intro k
 induction k with
 | zero=>intro x_5 s _ h;exact nm h
 | succ k ih=>
   intro x_5 s hs h
   rw [z7] at h
   obtain ⟨h0,h1,h4,h7,h8⟩:=hs
   refine .seq (rg (g2 8 7 (jb (decide (x_5 < (x_1.length:Int)))) h8 h7 fun h9=>gq (.nsq (.seq (zk (t:=decide (x_5 < (x_1.length:Int))) h9 h (fun h=>?_) (fun h=>?_))))))
   · refine .skip (.nsq (.seq (.block (.seq (rg (gm h8 fun h10=>gm h10 fun h5=>gq (.nsq (.seq (rg (gm h1 fun h11=>gm h0 fun h12=>gm h5 fun h13=>?_))))))))))
     obtain ⟨e_8,E_e_8,h⟩:=bind_some h
     refine gv (.ref .sh 0 [] (ji e_8)) (yz (t:=.sh) (lo:=0) (xs:=x_1) h12 h13 E_e_8 rfl rfl) fun h14=>g1 14 (ji e_8) h14 fun h15=>?_
     obtain ⟨r_9,E_r_9,h⟩:=bind_some h
     refine LH (m:=0) (al:=false) (r:=Enc.enc (r_9:Bool)) (fs:=[]) (env:=[.ref .sh 0 [] (ji x_2.env.1.v),.ref .sh 0 [] (.agg [eL x_2.env.2.1.v.a])]) (us:=[]) (ws:=[Arg.arg (x_2.env.1:(Rf Int)),Arg.arg (x_2.env.2.1:(Rf (S1 LI)))]) h11 xf (xN (Xw rfl) (xN (Xw (Enc.erase_enc (x_2.env.2.1.v:(S1 LI)))) xf)) rfl [Enc.enc (e_8:Int)] (ze (v:=ji e_8) h15 rfl rfl zx) (H.c55 _ _ _ _ E_r_9) H.g55 rfl rfl rfl rfl (gq (.nsq (zk (t:=r_9) rfl h (fun h=>?_) (fun h=>?_))))
     · refine .seq (rg (gm h5 fun h17=>gm h17 fun h4=>gq (.nsq (.ret ?_))))
       have hr:=Option.some.inj h
       subst hr
       exact rrA (zn h4) rfl
     refine .skip (.nbk (.nsq (rg (g1 8 (ji (w64 (x_5 + 1))) h8 fun h18=>gm h18 fun h8=>gq (.nlp ?_)))))
     exact ih (w64 (x_5 + 1)) _ ⟨h0,h1,h4,h7,h8⟩ h
   refine .exit (.esq (.elp (.ebk (.nsq (.seq (rg (g0 (ji (-1)) fun h4=>gq (.nsq (.ret ?_)))))))))
   have hr:=Option.some.inj h
   subst hr
   exact rrA (zn h4) rfl
def yp (F:Nat) (x_1:LI) (x_2:(Cl 55 Unit ((Rf Int)×(Rf (S1 LI))×Unit))):Option Int:=
 z7 F x_1 x_2 F 0
theorem zqH (H:zgv D σ F) (x_1:LI) (x_2:(Cl 55 Unit ((Rf Int)×(Rf (S1 LI))×Unit))) (s:Nat→V) (hs:zl [(0,eL x_1),(1,.fn 55 [] [.ref .sh 0 [] (ji x_2.env.1.v),.ref .sh 0 [] (.agg [eL x_2.env.2.1.v.a])])] s) (h:yp F x_1 x_2=some r):Run D σ (zk1 r) (.run zlp []) s:=by
 unfold yp at h
 obtain ⟨h0,h1⟩:=hs
 refine .seq (rg (g0 (ji 0) fun h4=>gq (.nsq (.seq (.seq (rg (gm h0 fun h6=>gv (ji (x_1.length:Int)) (yu (xs:=x_1) h6) fun h7=>g0 (ji 0) fun h8=>gq (.nsq (.block (.loop ?_))))))))))
 exact zcP H x_1 x_2 F 0 _ ⟨h0,h1,h4,h7,h8⟩ h
end
def zhX (F:Nat):Ent:=ent 75 (fun (x:(LI×(Cl 55 Unit ((Rf Int)×(Rf (S1 LI))×Unit))×Unit))=>yp F x.1 x.2.1) (fun (r:Int)=>(Enc.enc (r:Int))) 0 false [(1,55)]
abbrev zkJ (D:List V→Option V) (F:Nat):Prop:=∀ (x0:LI) (x1:(Cl 55 Unit ((Rf Int)×(Rf (S1 LI))×Unit))) r,yp F x0 x1=some r→D [Enc.enc x0,Arg.arg x1]=some (Enc.enc (r:Int))
theorem zsl {F:Nat}:zkJ (zhX F).den F:=fun x0 x1 _ h=>zN (x0,x1,()) h
theorem zoD {D:Den} {σ:Sig} {F:Nat} (hF:zy Try.prog D σ) (H:zgv D σ F):(zhX F).Ok Try.prog:=by
 refine yl (f:=75) (show unk 75=75 from rfl) (fun args r h=>?_) ⟨Try.f75,Try.func75,rfl,rfl⟩
 obtain ⟨⟨x0,x1,_⟩,y,rfl,hy,rfl⟩:=zM h
 exact zm hF (by kernel_rfl) Try.func75 rfl c75s1 (show 2≤Try.f75.ntmps by decide) (zqH H x0 x1 _ ⟨rfl,rfl⟩ hy)
def zkc:AC:=(.seq (.reg [] [jm 5 0,jm 6 1,jx 7 (.call (jf 75) [.t 5,.t 6]),jv 8 (.bin .geq (.t 7) (jn 0)),jm 4 8] []) .ret)
def zk7:AC:=(.seq (.reg [] [jv 4 (.mov kf)] []) zkc)
def znx:List An:=[]
theorem c54s1:cC Try.prog Try.f54.ntmps znx (Try.f54.body.getD .skip)=some zk7:=by kernel_rfl
structure zlq (D:Den) (σ:Sig) (F:Nat):Prop where
 c75s1:zkJ (D 75) F
 g75s1:σ 75=some (0,false)
abbrev zsL (r:Bool):(Nat→V)→Prop:=RR Try.prog [.tmp 4] 0 false (Enc.enc (r:Bool))
section
variable {D:Den} {σ:Sig} {F:Nat} {r:Bool}
def yi (F:Nat) (x_1:LI) (x_2:(Cl 55 Unit ((Rf Int)×(Rf (S1 LI))×Unit))):Option Bool:=
 (yp F x_1 x_2).bind fun r_3=>
 some (decide (r_3≥0))
theorem zsE (H:zlq D σ F) (x_1:LI) (x_2:(Cl 55 Unit ((Rf Int)×(Rf (S1 LI))×Unit))) (s:Nat→V) (hs:zl [(0,eL x_1),(1,.fn 55 [] [.ref .sh 0 [] (ji x_2.env.1.v),.ref .sh 0 [] (.agg [eL x_2.env.2.1.v.a])])] s) (h:yi F x_1 x_2=some r):Run D σ (zsL r) (.run zk7 []) s:=by
 unfold yi at h
 obtain ⟨h0,h1⟩:=hs
 refine .seq (rg (g0 (jb false) fun h4=>gq (.nsq (.seq (rg (gm h0 fun h5=>gm h1 fun h6=>?_))))))
 obtain ⟨r_3,E_r_3,h⟩:=bind_some h
 refine zF (m:=0) (al:=false) (r:=Enc.enc (r_3:Int)) [eL x_1,Arg.arg (x_2:(Cl 55 Unit ((Rf Int)×(Rf (S1 LI))×Unit)))] (ze (v:=eL x_1) h5 rfl (Enc.erase_enc (x_1:LI)) (ze (v:=.fn 55 [] [.ref .sh 0 [] (ji x_2.env.1.v),.ref .sh 0 [] (.agg [eL x_2.env.2.1.v.a])]) h6 rfl (Uj xf (xN (Xw rfl) (xN (Xw (Enc.erase_enc (x_2.env.2.1.v:(S1 LI)))) xf))) zx)) (H.c75s1 _ _ _ E_r_3) H.g75s1 rfl rfl rfl rfl (g1 7 (jb (decide (r_3≥0))) (rf (ji r_3)) fun h8=>gm h8 fun h4=>gq (.nsq (.ret ?_)))
 have hr:=Option.some.inj h
 subst hr
 exact rrA (zn h4) rfl
end
def zjd (F:Nat):Ent:=ent 54 (fun (x:(LI×(Cl 55 Unit ((Rf Int)×(Rf (S1 LI))×Unit))×Unit))=>yi F x.1 x.2.1) (fun (r:Bool)=>(Enc.enc (r:Bool))) 0 false [(1,55)]
abbrev zkL (D:List V→Option V) (F:Nat):Prop:=∀ (x0:LI) (x1:(Cl 55 Unit ((Rf Int)×(Rf (S1 LI))×Unit))) r,yi F x0 x1=some r→D [Enc.enc x0,Arg.arg x1]=some (Enc.enc (r:Bool))
theorem zsa {F:Nat}:zkL (zjd F).den F:=fun x0 x1 _ h=>zN (x0,x1,()) h
theorem zr1 {D:Den} {σ:Sig} {F:Nat} (hF:zy Try.prog D σ) (H:zlq D σ F):(zjd F).Ok Try.prog:=by
 refine yl (f:=54) (show unk 54=54 from rfl) (fun args r h=>?_) ⟨Try.f54,Try.func54,rfl,rfl⟩
 obtain ⟨⟨x0,x1,_⟩,y,rfl,hy,rfl⟩:=zM h
 exact zm hF (by kernel_rfl) Try.func54 rfl c54s1 (show 2≤Try.f54.ntmps by decide) (zsE H x0 x1 _ ⟨rfl,rfl⟩ hy)
def zsR:AC:=(.seq (.reg [] [jv 5 (.load .s (.t 3)),jx 6 (.call (jf 29) [.t 5]),jv 7 (.fn 55 [] [.t 3,.t 2]),jx 8 (.call (jf 54) [.t 6,.t 7]),jv 9 (.un .not (.t 8)),jm 4 9] []) .ret)
def A30:AC:=(.seq (.reg [.clr [2,3]] [jx 2 (.box (.t 0)),jx 3 (.box (.t 1)),jv 4 (.mov kf)] []) zsR)
def zt9:List An:=[⟨0,[.clr [2,3]],[],[],[]⟩]
theorem c30:cC Try.prog Try.f30.ntmps zt9 (Try.f30.body.getD .skip)=some A30:=by kernel_rfl
structure H30 (D:Den) (σ:Sig) (F:Nat):Prop where
 c29:C29 (D 29) F
 g29:σ 29=some (0,false)
 c54s1:zkL (D 54) F
 g54s1:σ 54=some (0,false)
abbrev R30 (r:Bool):(Nat→V)→Prop:=RR Try.prog [.tmp 4] 0 false (Enc.enc (r:Bool))
section
variable {D:Den} {σ:Sig} {F:Nat} {r:Bool}
def wG (F:Nat) (x_1:(S1 LI)) (x_2:Int):Option Bool:=
 (vG F x_2).bind fun r_3=>
 (yi F r_3 (Cl.mk () ((Rf.mk x_2:(Rf Int)),(Rf.mk x_1:(Rf (S1 LI))),()):(Cl 55 Unit ((Rf Int)×(Rf (S1 LI))×Unit)))).bind fun r_4=>
 some (!r_4)
theorem t30 (H:H30 D σ F) (x_1:(S1 LI)) (x_2:Int) (s:Nat→V) (hs:zl [(0,.agg [eL x_1.a]),(1,ji x_2)] s) (h:wG F x_1 x_2=some r):Run D σ (R30 r) (.run A30 []) s:=by
 unfold wG at h
 obtain ⟨h0,h1⟩:=hs
 refine .seq (zq (zS ?_))
 refine ez [(0,_),(1,_),(2,_),(3,_)] ⟨za h0 rfl (zA (zd me zh)),za h1 rfl mi,zc rfl,zc rfl⟩ ?_
 rintro s ⟨h0,h1,h2,h3⟩
 refine xz (.agg [eL x_1.a]) (zw h0 rfl) h2 rfl (xz (ji x_2) (zw h1 rfl) h3 rfl (g0 (jb false) fun h4=>gq (.nsq (.seq (rg (g1 3 (ji x_2) (rf (.ref (.bx 3) 0 [] (ji x_2))) fun h5=>?_))))))
 obtain ⟨r_3,E_r_3,h⟩:=bind_some h
 refine zF (m:=0) (al:=false) (r:=eL r_3) [Enc.enc (x_2:Int)] (ze (v:=ji x_2) h5 rfl rfl zx) (H.c29 _ _ E_r_3) H.g29 rfl rfl rfl rfl (g2 3 2 (.fn 55 [] [.ref (.bx 3) 0 [] (ji x_2),.ref (.bx 2) 0 [] (.agg [eL x_1.a])]) (rf (.ref (.bx 3) 0 [] (ji x_2))) (rf (.ref (.bx 2) 0 [] (.agg [eL x_1.a]))) fun h7=>?_)
 obtain ⟨r_4,E_r_4,h⟩:=bind_some h
 refine zF (m:=0) (al:=false) (r:=Enc.enc (r_4:Bool)) [eL r_3,Arg.arg ((Cl.mk () ((Rf.mk x_2:(Rf Int)),(Rf.mk x_1:(Rf (S1 LI))),()):(Cl 55 Unit ((Rf Int)×(Rf (S1 LI))×Unit))):(Cl 55 Unit ((Rf Int)×(Rf (S1 LI))×Unit)))] (ze (v:=eL r_3) rfl rfl (Enc.erase_enc (r_3:LI)) (ze (v:=.fn 55 [] [.ref (.bx 3) 0 [] (ji x_2),.ref (.bx 2) 0 [] (.agg [eL x_1.a])]) h7 rfl (Uj xf (xN (Xw rfl) (xN (Xw (Enc.erase_enc (x_1:(S1 LI)))) xf))) zx)) (H.c54s1 _ _ _ E_r_4) H.g54s1 rfl rfl rfl rfl (g1 8 (jb (!r_4)) (rf (jb r_4)) fun h9=>gm h9 fun h4=>gq (.nsq (.ret ?_)))
 have hr:=Option.some.inj h
 subst hr
 exact rrA (zn h4) rfl
end
def e30 (F:Nat):Ent:=ent 30 (fun (x:((S1 LI)×Int×Unit))=>wG F x.1 x.2.1) (fun (r:Bool)=>(Enc.enc (r:Bool))) 0 false []
abbrev C30 (D:List V→Option V) (F:Nat):Prop:=∀ (x0:(S1 LI)) (x1:Int) r,wG F x0 x1=some r→D [Enc.enc x0,Enc.enc x1]=some (Enc.enc (r:Bool))
theorem p30 {F:Nat}:C30 (e30 F).den F:=fun x0 x1 _ h=>zN (x0,x1,()) h
theorem o30 {D:Den} {σ:Sig} {F:Nat} (hF:zy Try.prog D σ) (H:H30 D σ F):(e30 F).Ok Try.prog:=by
 refine yl (f:=30) (show unk 30=30 from rfl) (fun args r h=>?_) ⟨Try.f30,Try.func30,rfl,rfl⟩
 obtain ⟨⟨x0,x1,_⟩,y,rfl,hy,rfl⟩:=zM h
 exact zm hF (by kernel_rfl) Try.func30 rfl c30 (show 2≤Try.f30.ntmps by decide) (t30 H x0 x1 _ ⟨rfl,rfl⟩ hy)
def zpu:AC:=(.seq (.reg [] [jm 5 1,jv 6 (.len (.t 5)),jm 7 0,jv 8 (.len (.t 7)),jv 9 (.bin .gtr (.t 6) (.t 8)),jm 10 9,jg 11 10 false (.mov (.t 1)),jg 12 10 false (.len (.t 11)),jg 13 10 false (.mov (.t 0)),jg 14 10 false (.len (.t 13)),jg 15 10 false (.bin .eql (.t 12) (.t 14)),jg 16 10 false (.mov (.t 15)),jg 17 16 true (.mov (.t 1)),jg 18 16 true (.mov (.t 0)),.mk (some 19) (some (16,true)) false (.call (jf 46) [.t 17,.t 18]),jg 20 16 true (.bin .lss (.t 19) (jn 0)),jg 21 10 false (.pick (.t 16) (.t 20) kf),jv 22 (.pick (.t 10) kt (.t 21)),jm 4 22] []) .ret)
def A31:AC:=(.seq (.reg [] [jv 4 (.mov kf)] []) zpu)
def zuQ:List An:=[]
theorem c31:cC Try.prog Try.f31.ntmps zuQ (Try.f31.body.getD .skip)=some A31:=by kernel_rfl
structure H31 (D:Den) (σ:Sig) (F:Nat):Prop where
 c46:C46 (D 46) F
 g46:σ 46=some (0,false)
abbrev R31 (r:Bool):(Nat→V)→Prop:=RR Try.prog [.tmp 4] 0 false (Enc.enc (r:Bool))
section
variable {D:Den} {σ:Sig} {F:Nat} {r:Bool}
def w7 (F:Nat) (x_1:LI) (x_2:LI):Option Bool:=
 bif decide ((x_2.length:Int) > (x_1.length:Int)) then
  some true
 else
  bif ((x_2.length:Int) == (x_1.length:Int)) then
   (xX F x_2 x_1).bind fun r_3=>
   some (decide (r_3 < 0))
  else
   some false
theorem t31 (H:H31 D σ F) (x_1:LI) (x_2:LI) (s:Nat→V) (hs:zl [(0,eL x_1),(1,eL x_2)] s) (h:w7 F x_1 x_2=some r):Run D σ (R31 r) (.run A31 []) s:=by
 unfold w7 at h
 obtain ⟨h0,h1⟩:=hs
 refine .seq (rg (g0 (jb false) fun h4=>gq (.nsq (.seq (rg (gm h1 fun h5=>gv (ji (x_2.length:Int)) (yu (xs:=x_2) h5) fun h6=>gm h0 fun h7=>gv (ji (x_1.length:Int)) (yu (xs:=x_1) h7) fun h8=>g2 6 8 (jb (decide ((x_2.length:Int) > (x_1.length:Int)))) h6 h8 fun h9=>gm h9 fun h10=>zW (c:=decide ((x_2.length:Int) > (x_1.length:Int))) h (fun hg6 h=>?_) (fun hg6 h=>?_)))))))
 · iterate 6 refine z9 (ct h10 hg6) ?_
   iterate 4 refine uw rfl ?_
   refine z9 (ct h10 hg6) (g2 10 21 (jb true) (ct h10 hg6) (rf (.tup [])) fun h22=>gm h22 fun h4=>gq (.nsq (.ret ?_)))
   have hr:=Option.some.inj h
   subst hr
   exact rrA (zn h4) rfl
 refine zg (ct h10 hg6) (gm h1 fun h11=>zg (ct h10 hg6) (gv (ji (x_2.length:Int)) (yu (xs:=x_2) h11) fun h12=>zg (ct h10 hg6) (gm h0 fun h13=>zg (ct h10 hg6) (gv (ji (x_1.length:Int)) (yu (xs:=x_1) h13) fun h14=>zg (ct h10 hg6) (g2 12 14 (jb ((x_2.length:Int) == (x_1.length:Int))) h12 h14 fun h15=>zg (ct h10 hg6) (gm h15 fun h16=>zW (c:=((x_2.length:Int) == (x_1.length:Int))) h (fun hg12 h=>?_) (fun hg12 h=>?_)))))))
 · refine zg (ct h16 hg12) (gm h1 fun h17=>zg (ct h16 hg12) (gm h0 fun h18=>?_))
   obtain ⟨r_3,E_r_3,h⟩:=bind_some h
   refine zg (ct h16 hg12) (zF (m:=0) (al:=false) (r:=Enc.enc (r_3:Int)) [eL x_2,eL x_1] (ze (v:=eL x_2) h17 rfl (Enc.erase_enc (x_2:LI)) (ze (v:=eL x_1) h18 rfl (Enc.erase_enc (x_1:LI)) zx)) (H.c46 _ _ _ E_r_3) H.g46 rfl rfl rfl rfl (zg (ct h16 hg12) (g1 19 (jb (decide (r_3 < 0))) (rf (ji r_3)) fun h20=>zg (ct h10 hg6) (g2 16 20 (jb (decide (r_3 < 0))) (ct h16 hg12) h20 fun h21=>g2 10 21 (jb (decide (r_3 < 0))) (ct h10 hg6) h21 fun h22=>gm h22 fun h4=>gq (.nsq (.ret ?_))))))
   have hr:=Option.some.inj h
   subst hr
   exact rrA (zn h4) rfl
 iterate 4 refine z9 (ct h16 hg12) ?_
 refine zg (ct h10 hg6) (g2 16 20 (jb false) (ct h16 hg12) (rf (.tup [])) fun h21=>g2 10 21 (jb false) (ct h10 hg6) h21 fun h22=>gm h22 fun h4=>gq (.nsq (.ret ?_)))
 have hr:=Option.some.inj h
 subst hr
 exact rrA (zn h4) rfl
end
def e31 (F:Nat):Ent:=ent 31 (fun (x:(LI×LI×Unit))=>w7 F x.1 x.2.1) (fun (r:Bool)=>(Enc.enc (r:Bool))) 0 false []
abbrev C31 (D:List V→Option V) (F:Nat):Prop:=∀ (x0:LI) (x1:LI) r,w7 F x0 x1=some r→D [Enc.enc x0,Enc.enc x1]=some (Enc.enc (r:Bool))
theorem p31 {F:Nat}:C31 (e31 F).den F:=fun x0 x1 _ h=>zN (x0,x1,()) h
theorem o31 {D:Den} {σ:Sig} {F:Nat} (hF:zy Try.prog D σ) (H:H31 D σ F):(e31 F).Ok Try.prog:=by
 refine yl (f:=31) (show unk 31=31 from rfl) (fun args r h=>?_) ⟨Try.f31,Try.func31,rfl,rfl⟩
 obtain ⟨⟨x0,x1,_⟩,y,rfl,hy,rfl⟩:=zM h
 exact zm hF (by kernel_rfl) Try.func31 rfl c31 (show 2≤Try.f31.ntmps by decide) (t31 H x0 x1 _ ⟨rfl,rfl⟩ hy)
def znH:AC:=(.cond (.t 8) .skip (.exit 0))
def znz:AC:=(.cond (.t 15) (.reg [.clr [18,19]] [jm 16 3,jm 17 4,jx 18 (.lit i0 1 [(0,0,.t 17)]),jx 19 (.app .s (.t 16) (.t 18)),jm 3 19] [.home 19 3]) .skip)
def zhx:AC:=(.reg [] [jm 9 4,jv 10 (.bin .add (.t 9) (jn 1)),jm 4 10] [])
def znM:AC:=(.seq (.block 1 (.seq (.reg [] [jm 11 0,jm 12 4,jv 13 (.bin .shr (.t 11) (.t 12)),jv 14 (.bin .and (.t 13) (jn 1)),jv 15 (.bin .eql (.t 14) (jn 1))] []) znz)) zhx)
def KX:AC:=(.seq (.seq (.reg [] [jm 5 0,jm 6 4,jv 7 (.bin .shr (.t 5) (.t 6)),jv 8 (.bin .neq (.t 7) (jn 0))] []) znH) znM)
def za6:AC:=(.seq (.reg [] [jm 20 3,jm 2 20] [.home 3 2]) .ret)
def zmy:AC:=(.block 0 (.loop KX))
def zmC:AC:=(.seq (.seq (.reg [] [jv 4 (.mov (jn 0))] []) zmy) za6)
def zl0:AC:=(.seq (.reg [] [jv 3 (.mov (.k (.sl .nl .s 0 [])))] []) zmC)
def zsQ:AC:=(.seq (.reg [] [jv 2 (.mov (.k (.sl .nl .s 0 [])))] []) zl0)
def zpT:List An:=[⟨6,[.clr [18,19]],[],[],[.home 19 3]⟩,⟨7,[],[],[],[.home 3 2]⟩]
theorem c29o:cC Try.prog Try.f29.ntmps zpT (Try.f29.body.getD .skip)=some zsQ:=by kernel_rfl
structure zkx (D:Den) (σ:Sig) (F:Nat):Prop where
 mk ::
abbrev zkt (r:(NL Int)):(Nat→V)→Prop:=RR Try.prog [.tmp 2] 1 false (zi .sh (r:NL Int))
section
variable {D:Den} {σ:Sig} {F:Nat} {r:(NL Int)}
def Yk (F:Nat) (x_1:Int) (x_8:Int) (c1:(NL Int)→Int→Option (NL Int)) (x_17:(NL Int)):Option (NL Int):=
 c1 x_17 (w64 (x_8 + 1))
theorem N8 (H:zkx D σ F) (x_1:Int) (x_8:Int) (c1:(NL Int)→Int→Option (NL Int)) (Hc1:∀ (x_7:(NL Int)) (x_8:Int) (s:Nat→V),zl [(0,ji x_1),(2,nI),(3,oI 3 [] x_7),(4,ji x_8)] s→c1 x_7 x_8=some r→Run D σ (zkt r) (.run KX [.lp KX,.bk 0,.sq za6]) s) (x_17:(NL Int)) (s:Nat→V) (hs:zl [(0,ji x_1),(2,nI),(3,oI 3 [] x_17),(4,ji x_8)] s) (h:Yk F x_1 x_8 c1 x_17=some r):Run D σ (zkt r) (.nrm [.bk 1,.sq zhx,.lp KX,.bk 0,.sq za6]) s:=by
 unfold Yk at h
 obtain ⟨h0,h2,h3,h4⟩:=hs
 refine .nbk (.nsq (rg (gm h4 fun h9=>g1 9 (ji (w64 (x_8 + 1))) h9 fun h10=>gm h10 fun h4=>gq (.nlp ?_))))
 exact Hc1 x_17 (w64 (x_8 + 1)) _ ⟨h0,h2,h3,h4⟩ h
def wR (F:Nat) (x_1:Int) :Nat→(NL Int)→Int→Option (NL Int)
 | 0,_,_=>none
 | k + 1,x_7,x_8=>
   (Wn .i64 x_1 x_8).bind fun q_14=>
   bif (q_14 != 0) then
    (Wn .i64 x_1 x_8).bind fun q_15=>
    bif ((yf .i64 q_15 1) == 1) then
     (wS x_7.list [x_8]).bind fun ap_18=>
     Yk F x_1 x_8 (wR F x_1 k) (.of ap_18)
    else
     Yk F x_1 x_8 (wR F x_1 k) x_7
   else
    some x_7
theorem zfU (H:zkx D σ F) (x_1:Int) :∀ (k:Nat) (x_7:(NL Int)) (x_8:Int) (s:Nat→V),zl [(0,ji x_1),(2,nI),(3,oI 3 [] x_7),(4,ji x_8)] s→wR F x_1 k x_7 x_8=some r→Run D σ (zkt r) (.run KX [.lp KX,.bk 0,.sq za6]) s:=by
 intro k
 induction k with
 | zero=>intro x_7 x_8 s _ h;exact nm h
 | succ k ih=>
   intro x_7 x_8 s hs h
   rw [wR] at h
   obtain ⟨h0,h2,h3,h4⟩:=hs
   refine .seq (.seq (rg (gm h0 fun h5=>gm h4 fun h6=>?_)))
   obtain ⟨q_14,E_q_14,h⟩:=bind_some h
   refine gv (ji q_14) (YE h5 h6 E_q_14) fun h7=>g1 7 (jb (q_14 != 0)) h7 fun h8=>gq (.nsq (zk (t:=(q_14 != 0)) h8 h (fun h=>?_) (fun h=>?_)))
   · refine .skip (.nsq (.seq (.block (.seq (rg (gm h0 fun h11=>gm h4 fun h12=>?_))))))
     obtain ⟨q_15,E_q_15,h⟩:=bind_some h
     refine gv (ji q_15) (YE h11 h12 E_q_15) fun h13=>g1 13 (ji (yf .i64 q_15 1)) h13 fun h14=>g1 14 (jb ((yf .i64 q_15 1) == 1)) h14 fun h15=>gq (.nsq (zk (t:=((yf .i64 q_15 1) == 1)) h15 h (fun h=>?_) (fun h=>?_)))
     · refine zq (zS ?_)
       refine ez [(0,_),(2,_),(3,_),(4,_),(18,_),(19,_)] ⟨za h0 rfl mi,za h2 rfl rfl,za h3 rfl (zj (r:=3) (p:=[]) rfl rfl),za h4 rfl mi,zc rfl,zc rfl⟩ ?_
       rintro s ⟨h0,h2,h3,h4,h18,h19⟩
       refine gv (oI 3 [] x_7) (wa h3 yI) fun h16=>gm h4 fun h17=>xT [(17,ji x_8)] [Enc.enc (x_8:Int)] h17 rfl rfl h18 ?_
       obtain ⟨ap_18,E_ap_18,h⟩:=bind_some h
       refine Xz (q:=3) (p:=[]) (o:=(x_7:NL Int)) (ys:=([x_8]:LI)) (t2:=.at 18 []) (lo2:=0) h16 rfl rfl h19 (ZJ (o:=(x_7:NL Int)) E_ap_18 (by split <;> simp)) (fun s_17 ha_17=>gm (rf (oI 19 [] (.of ap_18))) fun h3=>yQ (yC (r:=19) (x:=3) (v:=_) h3 rfl (fun s_18 hg_18=>?_)))
       refine ez [(0,ji x_1),(2,nI),(3,oI 3 [] (.of ap_18)),(4,ji x_8)] ⟨hg_18 0 _ _ (show s_17 0=(ji x_1) from zJ ha_17 h0 mi) mi,hg_18 2 _ nI (show s_17 2=nI from zJ ha_17 h2 rfl) rfl,hg_18 3 _ _ h3 (zj (r:=19) (p:=[]) rfl rfl),hg_18 4 _ _ (show s_17 4=(ji x_8) from zJ ha_17 h4 mi) mi⟩ ?_
       rintro s ⟨h0,h2,h3,h4⟩
       exact N8 H x_1 x_8 (wR F x_1 k) ih (.of ap_18) _ ⟨h0,h2,h3,h4⟩ h
     refine .skip ?_
     exact N8 H x_1 x_8 (wR F x_1 k) ih x_7 _ ⟨h0,h2,h3,h4⟩ h
   refine .exit (.esq (.elp (.ebk (.nsq (.seq (rg (gv (oI 3 [] x_7) (wa h3 yI) fun h20=>gv (oI 3 [] x_7) (wa h20 yI) fun h2=>yQ (yC (r:=3) (x:=2) (v:=_) h2 yI (fun s_19 hg_19=>?_)))))))))
   refine ez [(2,oI 2 [] x_7)] (hg_19 2 _ _ h2 (zj (r:=3) (p:=[]) rfl rfl)) ?_
   rintro s h2
   refine .nsq (.ret ?_)
   have hr:=Option.some.inj h
   subst hr
   exact rrA (zn h2) (Z6 (Yj (o:=(x_7:NL Int))) rfl (xB rfl))
def Ys (F:Nat) (x_1:Int):Option (NL Int):=
 wR F x_1 F .nil 0
theorem ztH (H:zkx D σ F) (x_1:Int) (s:Nat→V) (hs:zl [(0,ji x_1)] s) (h:Ys F x_1=some r):Run D σ (zkt r) (.run zsQ []) s:=by
 unfold Ys at h
 have h0:=hs
 refine .seq (rg (g0 nI fun h2=>gq (.nsq (.seq (rg (g0 nI fun h3=>gq (.nsq (.seq (.seq (rg (g0 (ji 0) fun h4=>gq (.nsq (.block (.loop ?_))))))))))))))
 exact zfU H x_1 F .nil 0 _ ⟨h0,h2,h3,h4⟩ h
end
def znO (F:Nat):Ent:=ent 1000000029 (fun (x:(Int×Unit))=>Ys F x.1) (fun (r:(NL Int))=>(zi .sh (r:NL Int))) 1 false []
abbrev zqu (D:List V→Option V) (F:Nat):Prop:=∀ (x0:Int) r,Ys F x0=some r→D [Enc.enc x0]=some (zi .sh (r:NL Int))
theorem zun {F:Nat}:zqu (znO F).den F:=fun x0 _ h=>zN (x0,()) h
theorem zum {D:Den} {σ:Sig} {F:Nat} (hF:zy Try.prog D σ) (H:zkx D σ F):(znO F).Ok Try.prog:=by
 refine yl (f:=29) (show unk 1000000029=29 from rfl) (fun args r h=>?_) ⟨Try.f29,Try.func29,rfl,rfl⟩
 obtain ⟨⟨x0,_⟩,y,rfl,hy,rfl⟩:=zM h
 exact zm hF (by kernel_rfl) Try.func29 rfl c29o (show 1≤Try.f29.ntmps by decide) (ztH H x0 _ rfl hy)
def zls:AC:=(.cond (.t 28) (.reg [] [jm 29 7,jm 5 29] [.home 7 5]) .skip)
def zsr:AC:=(.seq (.reg [] [jv 21 (.load (.ag [.p]) (.t 4)),jm 22 6,jx 23 (.call (jf 30) [.t 21,.t 22]),jm 24 23,jg 25 24 true (.mov (.t 5)),jg 26 24 true (.mov (.t 7)),.mk (some 27) (some (24,true)) false (.call (jf 31) [.t 25,.t 26]),jv 28 (.pick (.t 24) (.t 27) kf)] []) zls)
def zoT:AC:=(.seq (.reg [.clr [20]] [jm 19 6,jx 20 (.callO (jf 29) [.t 19]),jm 7 20] [.home 20 7]) zsr)
def zhh:AC:=(.reg [] [jv 30 (.bin .add (.t 16) (jn 1)),jm 16 30] [])
def zr7:AC:=(.seq (.block 1 (.seq (.reg [] [jm 18 16,jm 6 18] []) zoT)) zhh)
def zoa:AC:=(.seq (.cond (.t 17) .skip (.exit 0)) zr7)
def J5:AC:=(.seq (.reg [] [jv 17 (.bin .lss (.t 16) (.t 15))] []) zoa)
def NE:AC:=(.seq (.reg [] [jm 31 5,jm 2 31,jv 3 (.mov kt)] [.home 5 2]) .ret)
def zlK:AC:=(.cond (.t 10) (.seq (.reg [] [jv 2 (.mov (.k (.sl .nl .s 0 []))),jv 3 (.mov kf)] []) .ret) .skip)
def zms:AC:=(.block 0 (.loop J5))
def zm1:AC:=(.seq (.seq (.reg [] [jv 13 (.load (.ag [.p]) (.t 4)),jx 14 (.call (jf 28) [.t 13]),jv 15 (.bin .add (.t 14) (jn 1)),jv 16 (.mov (jn 0))] []) zms) NE)
def zmO:AC:=(.seq (.reg [] [jv 5 (.mov (.k (.sl .nl .s 0 [])))] []) zm1)
def znA:AC:=(.seq (.reg [.clr [4]] [jv 11 (.load (.ag [.s,.p]) (.t 1)),jx 12 (.call (jf 20) [.t 11]),jx 4 (.alloc (.agg [.sl .nl .s 0 []])),jz (.store (.ag [.p]) (.t 4) (.t 12))] []) zmO)
def zoP:AC:=(.seq (.seq (.reg [] [jv 8 (.load (.ag [.s,.p]) (.t 1)),jx 9 (.call (jf 19) [.t 8]),jv 10 (.un .not (.t 9))] []) zlK) znA)
def A10:AC:=(.seq (.reg [.clr [1]] [jx 1 (.box (.t 0)),jv 2 (.mov (.k (.sl .nl .s 0 []))),jv 3 (.mov kf)] []) zoP)
def zuq:List An:=[⟨0,[.clr [1]],[],[],[]⟩,⟨3,[.clr [4]],[],[],[]⟩,⟨8,[.clr [20]],[],[1001],[.home 20 7]⟩,⟨10,[],[],[],[.home 7 5]⟩,⟨12,[],[],[],[.home 5 2]⟩]
theorem c10:cC Try.prog Try.f10.ntmps zuq (Try.f10.body.getD .skip)=some A10:=by kernel_rfl
structure H10 (D:Den) (σ:Sig) (F:Nat):Prop where
 c19:C19 (D 19) F
 g19:σ 19=some (0,false)
 c20:C20 (D 20) F
 g20:σ 20=some (0,false)
 c28:C28 (D 28) F
 g28:σ 28=some (0,false)
 c29o:zqu (D 1000000029) F
 g29o:σ 1000000029=some (1,false)
 c30:C30 (D 30) F
 g30:σ 30=some (0,false)
 c31:C31 (D 31) F
 g31:σ 31=some (0,false)
abbrev R10 (r:(LI×Bool)):(Nat→V)→Prop:=RR Try.prog [.tmp 2,.tmp 3] 0 false (.tup [eL r.1,Enc.enc (r.2:Bool)])
section
variable {D:Den} {σ:Sig} {F:Nat} {r:(LI×Bool)}
def Zy (F:Nat) (r_3:(S1 LI)) (r_4:Int) (x_13:Int) (c1:(NL Int)→Int→Option (LI×Bool)) (x_25:(NL Int)):Option (LI×Bool):=
 c1 x_25 (w64 (x_13 + 1))
theorem zcz (H:H10 D σ F) (r_3:(S1 LI)) (r_4:Int) (x_13:Int) (c1:(NL Int)→Int→Option (LI×Bool)) (Hc1:∀ (x_12:(NL Int)) (x_13:Int) (s:Nat→V),zl [(2,nI),(3,jb false),(4,.ref (.bx 4) 0 [] (.agg [eL r_3.a])),(5,oI 5 [] x_12),(15,ji (w64 (r_4 + 1))),(16,ji x_13)] s→c1 x_12 x_13=some r→Run D σ (R10 r) (.run J5 [.lp J5,.bk 0,.sq NE]) s) (x_25:(NL Int)) (s:Nat→V) (hs:zl [(2,nI),(3,jb false),(4,.ref (.bx 4) 0 [] (.agg [eL r_3.a])),(5,oI 5 [] x_25),(15,ji (w64 (r_4 + 1))),(16,ji x_13)] s) (h:Zy F r_3 r_4 x_13 c1 x_25=some r):Run D σ (R10 r) (.nrm [.bk 1,.sq zhh,.lp J5,.bk 0,.sq NE]) s:=by
 unfold Zy at h
 obtain ⟨h2,h3,h4,h5,h15,h16⟩:=hs
 refine .nbk (.nsq (rg (g1 16 (ji (w64 (x_13 + 1))) h16 fun h30=>gm h30 fun h16=>gq (.nlp ?_))))
 exact Hc1 x_25 (w64 (x_13 + 1)) _ ⟨h2,h3,h4,h5,h15,h16⟩ h
def Zp (F:Nat) (r_3:(S1 LI)) (x_12:(NL Int)) (r_21:(NL Int)) (r_4:Int) (x_13:Int) (c1:(NL Int)→Int→Option (LI×Bool)) (x_24:Bool):Option (LI×Bool):=
 bif x_24 then
  Zy F r_3 r_4 x_13 c1 r_21
 else
  Zy F r_3 r_4 x_13 c1 x_12
theorem zbP (H:H10 D σ F) (r_3:(S1 LI)) (x_12:(NL Int)) (r_21:(NL Int)) (r_4:Int) (x_13:Int) (c1:(NL Int)→Int→Option (LI×Bool)) (Hc1:∀ (x_12:(NL Int)) (x_13:Int) (s:Nat→V),zl [(2,nI),(3,jb false),(4,.ref (.bx 4) 0 [] (.agg [eL r_3.a])),(5,oI 5 [] x_12),(15,ji (w64 (r_4 + 1))),(16,ji x_13)] s→c1 x_12 x_13=some r→Run D σ (R10 r) (.run J5 [.lp J5,.bk 0,.sq NE]) s) (x_24:Bool) (s:Nat→V) (hs:zl [(2,nI),(3,jb false),(4,.ref (.bx 4) 0 [] (.agg [eL r_3.a])),(5,oI 5 [] x_12),(7,oI 7 [] r_21),(15,ji (w64 (r_4 + 1))),(16,ji x_13),(28,jb x_24)] s) (h:Zp F r_3 x_12 r_21 r_4 x_13 c1 x_24=some r):Run D σ (R10 r) (.nrm [.sq zls,.bk 1,.sq zhh,.lp J5,.bk 0,.sq NE]) s:=by
 unfold Zp at h
 obtain ⟨h2,h3,h4,h5,h7,h15,h16,h28⟩:=hs
 refine .nsq (zk (t:=x_24) h28 h (fun h=>?_) (fun h=>?_))
 · refine rg (gv (oI 7 [] r_21) (wa h7 yI) fun h29=>gv (oI 7 [] r_21) (wa h29 yI) fun h5=>yQ (yC (r:=7) (x:=5) (v:=_) h5 yI (fun s_14 hg_14=>?_)))
   refine ez [(2,nI),(3,jb false),(4,.ref (.bx 4) 0 [] (.agg [eL r_3.a])),(5,oI 5 [] r_21),(15,ji (w64 (r_4 + 1))),(16,ji x_13)] ⟨hg_14 2 _ _ h2 rfl,hg_14 3 _ _ h3 mb,hg_14 4 _ _ h4 (zf rfl (zA (zd me zh))),hg_14 5 _ _ h5 (zj (r:=7) (p:=[]) rfl rfl),hg_14 15 _ _ h15 mi,hg_14 16 _ _ h16 mi⟩ ?_
   rintro s ⟨h2,h3,h4,h5,h15,h16⟩
   exact zcz H r_3 r_4 x_13 c1 Hc1 r_21 _ ⟨h2,h3,h4,h5,h15,h16⟩ h
 refine .skip ?_
 exact zcz H r_3 r_4 x_13 c1 Hc1 x_12 _ ⟨h2,h3,h4,h5,h15,h16⟩ h
def wD (F:Nat) (r_3:(S1 LI)) (r_4:Int) :Nat→(NL Int)→Int→Option (LI×Bool)
 | 0,_,_=>none
 | k + 1,x_12,x_13=>
   bif decide (x_13 < (w64 (r_4 + 1))) then
    (Ys F x_13).bind fun r_21=>
    (wG F r_3 x_13).bind fun r_26=>
    bif r_26 then
     (w7 F x_12.list r_21.list).bind fun r_27=>
     Zp F r_3 x_12 r_21 r_4 x_13 (wD F r_3 r_4 k) r_27
    else
     Zp F r_3 x_12 r_21 r_4 x_13 (wD F r_3 r_4 k) false
   else
    some (x_12.list,true)
theorem zgo (H:H10 D σ F) (r_3:(S1 LI)) (r_4:Int) :∀ (k:Nat) (x_12:(NL Int)) (x_13:Int) (s:Nat→V),zl [(2,nI),(3,jb false),(4,.ref (.bx 4) 0 [] (.agg [eL r_3.a])),(5,oI 5 [] x_12),(15,ji (w64 (r_4 + 1))),(16,ji x_13)] s→wD F r_3 r_4 k x_12 x_13=some r→Run D σ (R10 r) (.run J5 [.lp J5,.bk 0,.sq NE]) s:=by
 intro k
 induction k with
 | zero=>intro x_12 x_13 s _ h;exact nm h
 | succ k ih=>
   intro x_12 x_13 s hs h
   rw [wD] at h
   obtain ⟨h2,h3,h4,h5,h15,h16⟩:=hs
   refine .seq (rg (g2 16 15 (jb (decide (x_13 < (w64 (r_4 + 1))))) h16 h15 fun h17=>gq (.nsq (.seq (zk (t:=decide (x_13 < (w64 (r_4 + 1)))) h17 h (fun h=>?_) (fun h=>?_))))))
   · refine .skip (.nsq (.seq (.block (.seq (rg (gm h16 fun h18=>gm h18 fun h6=>gq (.nsq (.seq (zq (zS ?_))))))))))
     refine ez [(2,_),(3,_),(4,_),(5,_),(6,_),(15,_),(16,_),(20,_)] ⟨za h2 rfl rfl,za h3 rfl mb,za h4 rfl (zf rfl (zA (zd me zh))),za h5 rfl (zj (r:=5) (p:=[]) rfl rfl),za h6 rfl mi,za h15 rfl mi,za h16 rfl mi,zc rfl⟩ ?_
     rintro s ⟨h2,h3,h4,h5,h6,h15,h16,h20⟩
     refine gm h6 fun h19=>?_
     obtain ⟨r_21,E_r_21,h⟩:=bind_some h
     refine ZA (m:=1) (al:=false) (r:=zi .sh (r_21:NL Int)) (v:=oI 20 [] r_21) (kk:=1000000029) [Enc.enc (x_13:Int)] (ze (v:=ji x_13) h19 rfl rfl zx) (H.c29o _ _ E_r_21) H.g29o rfl vf vX vv h20 (gv (oI 20 [] r_21) (wa rfl yI) fun h7=>yQ (yC (r:=20) (x:=7) (v:=_) h7 yI (fun s_12 hg_12=>?_)))
     refine ez [(2,nI),(3,jb false),(4,.ref (.bx 4) 0 [] (.agg [eL r_3.a])),(5,oI 5 [] x_12),(6,ji x_13),(7,oI 7 [] r_21),(15,ji (w64 (r_4 + 1))),(16,ji x_13)] ⟨hg_12 2 _ _ h2 rfl,hg_12 3 _ _ h3 mb,hg_12 4 _ _ h4 (zf rfl (zA (zd me zh))),hg_12 5 _ _ h5 (zj (r:=5) (p:=[]) rfl rfl),hg_12 6 _ _ h6 mi,hg_12 7 _ _ h7 (zj (r:=20) (p:=[]) rfl rfl),hg_12 15 _ _ h15 mi,hg_12 16 _ _ h16 mi⟩ ?_
     rintro s ⟨h2,h3,h4,h5,h6,h7,h15,h16⟩
     refine .nsq (.seq (rg (g1 4 (.agg [eL r_3.a]) h4 fun h21=>gm h6 fun h22=>?_)))
     obtain ⟨r_26,E_r_26,h⟩:=bind_some h
     refine zF (m:=0) (al:=false) (r:=Enc.enc (r_26:Bool)) [Enc.enc (r_3:(S1 LI)),Enc.enc (x_13:Int)] (ze (v:=.agg [eL r_3.a]) h21 rfl (Enc.erase_enc (r_3:(S1 LI))) (ze (v:=ji x_13) h22 rfl rfl zx)) (H.c30 _ _ _ E_r_26) H.g30 rfl rfl rfl rfl (gm (rf (jb r_26)) fun h24=>zW (c:=r_26) h (fun hg4 h=>?_) (fun hg4 h=>?_))
     · refine zg (ct h24 hg4) (gv (oI 5 [] x_12) (wa h5 yI) fun h25=>zg (ct h24 hg4) (gv (oI 7 [] r_21) (wa h7 yI) fun h26=>?_))
       obtain ⟨r_27,E_r_27,h⟩:=bind_some h
       refine zg (ct h24 hg4) (zF (m:=0) (al:=false) (r:=Enc.enc (r_27:Bool)) [eL x_12.list,eL r_21.list] (ze (v:=oI 5 [] x_12) h25 vv (vm (o:=x_12)) (ze (v:=oI 7 [] r_21) h26 vv (vm (o:=r_21)) zx)) (H.c31 _ _ _ E_r_27) H.g31 rfl rfl rfl rfl (g2 24 27 (jb r_27) (ct h24 hg4) (rf (jb r_27)) fun h28=>gq ?_))
       exact zbP H r_3 x_12 r_21 r_4 x_13 (wD F r_3 r_4 k) ih r_27 _ ⟨h2,h3,h4,h5,h7,h15,h16,h28⟩ h
     iterate 3 refine z9 (ct h24 hg4) ?_
     refine g2 24 27 (jb false) (ct h24 hg4) (rf (.tup [])) fun h28=>gq ?_
     exact zbP H r_3 x_12 r_21 r_4 x_13 (wD F r_3 r_4 k) ih false _ ⟨h2,h3,h4,h5,h7,h15,h16,h28⟩ h
   refine .exit (.esq (.elp (.ebk (.nsq (.seq (rg (gv (oI 5 [] x_12) (wa h5 yI) fun h31=>gv (oI 5 [] x_12) (wa h31 yI) fun h2=>g0 (jb true) fun h3=>yQ (yC (r:=5) (x:=2) (v:=_) h2 yI (fun s_15 hg_15=>?_)))))))))
   refine ez [(2,oI 2 [] x_12),(3,jb true)] ⟨hg_15 2 _ _ h2 (zj (r:=5) (p:=[]) rfl rfl),hg_15 3 _ _ h3 mb⟩ ?_
   rintro s ⟨h2,h3⟩
   refine .nsq (.ret ?_)
   have hr:=Option.some.inj h
   subst hr
   exact rrB (zn h2) (zn h3) (vh (Xd (xe (vA (o:=x_12)) (xe (vD (x:=(true:Bool))) uj))) (zbK (x9 (xB rfl) (x9 rfl u6))))
def uK (F:Nat) (x_1:GR):Option (LI×Bool):=
 (wq F x_1).bind fun r_2=>
 bif (!r_2) then
  some ([],false)
 else
  (vS F x_1).bind fun r_3=>
  (yg F r_3).bind fun r_4=>
  wD F r_3 r_4 F .nil 0
theorem t10 (H:H10 D σ F) (x_1:GR) (s:Nat→V) (hs:zl [(0,gV x_1)] s) (h:uK F x_1=some r):Run D σ (R10 r) (.run A10 []) s:=by
 unfold uK at h
 have h0:=hs
 refine .seq (zq (zS ?_))
 refine ez [(0,_),(1,_)] ⟨za h0 rfl mIE,zc rfl⟩ ?_
 rintro s ⟨h0,h1⟩
 refine xz (gV x_1) (zw h0 rfl) h1 rfl (g0 nI fun h2=>g0 (jb false) fun h3=>gq (.nsq (.seq (.seq (rg (g1 1 (gV x_1) (rf (bG 1 x_1)) fun h8=>?_))))))
 obtain ⟨r_2,E_r_2,h⟩:=bind_some h
 refine zF (m:=0) (al:=false) (r:=Enc.enc (r_2:Bool)) [Enc.enc (x_1:GR)] (ze (v:=gV x_1) h8 rfl (Enc.erase_enc (x_1:GR)) zx) (H.c19 _ _ E_r_2) H.g19 rfl rfl rfl rfl (g1 9 (jb (!r_2)) (rf (jb r_2)) fun h10=>gq (.nsq (zk (t:=(!r_2)) h10 h (fun h=>?_) (fun h=>?_))))
 · refine .seq (rg (g0 nI fun h2=>g0 (jb false) fun h3=>gq (.nsq (.ret ?_))))
   have hr:=Option.some.inj h
   subst hr
   exact rrB (zn h2) (zn h3) (vh (Xd (xe (vA (o:=(.nil:NL Int)) (t:=.nl)) (xe (vD (x:=(false:Bool))) uj))) (zbK (x9 zhg (x9 rfl u6))))
 refine .skip (.nsq (.seq (zq (zS ?_))))
 refine ez [(1,_),(2,_),(3,_),(4,_)] ⟨za rfl rfl (zf rfl mIE),za h2 rfl rfl,za h3 rfl mb,zc rfl⟩ ?_
 rintro s ⟨h1,h2,h3,h4⟩
 refine g1 1 (gV x_1) h1 fun h11=>?_
 obtain ⟨r_3,E_r_3,h⟩:=bind_some h
 refine zF (m:=0) (al:=false) (r:=Enc.enc (r_3:(S1 LI))) [Enc.enc (x_1:GR)] (ze (v:=gV x_1) h11 rfl (Enc.erase_enc (x_1:GR)) zx) (H.c20 _ _ E_r_3) H.g20 rfl rfl rfl rfl (xk h4 (yb (.agg [eL r_3.a]) (zw rfl rfl) (zw rfl rfl) (wj (by first | rfl | simp [V.toks,V.tokss,Enc.toks_enc,ya])) (gz [(2,nI),(3,jb false),(4,.ref (.bx 4) 0 [] (.agg [eL r_3.a]))] ⟨zb h2 rfl,zb h3 rfl,zb rfl rfl⟩ ?_)))
 rintro s ⟨h2,h3,h4⟩
 refine .nsq (.seq (rg (g0 nI fun h5=>gq (.nsq (.seq (.seq (rg (g1 4 (.agg [eL r_3.a]) h4 fun h13=>?_))))))))
 obtain ⟨r_4,E_r_4,h⟩:=bind_some h
 refine zF (m:=0) (al:=false) (r:=Enc.enc (r_4:Int)) [Enc.enc (r_3:(S1 LI))] (ze (v:=.agg [eL r_3.a]) h13 rfl (Enc.erase_enc (r_3:(S1 LI))) zx) (H.c28 _ _ E_r_4) H.g28 rfl rfl rfl rfl (g1 14 (ji (w64 (r_4 + 1))) (rf (ji r_4)) fun h15=>g0 (ji 0) fun h16=>gq (.nsq (.block (.loop ?_))))
 exact zgo H r_3 r_4 F .nil 0 _ ⟨h2,h3,h4,h5,h15,h16⟩ h
end
def e10 (F:Nat):Ent:=ent 10 (fun (x:(GR×Unit))=>uK F x.1) (fun (r:(LI×Bool))=>(.tup [eL r.1,Enc.enc (r.2:Bool)])) 0 false []
abbrev C10 (D:List V→Option V) (F:Nat):Prop:=∀ (x0:GR) r,uK F x0=some r→D [Enc.enc x0]=some (.tup [eL r.1,Enc.enc (r.2:Bool)])
theorem p10 {F:Nat}:C10 (e10 F).den F:=fun x0 _ h=>zN (x0,()) h
theorem o10 {D:Den} {σ:Sig} {F:Nat} (hF:zy Try.prog D σ) (H:H10 D σ F):(e10 F).Ok Try.prog:=by
 refine yl (f:=10) (show unk 10=10 from rfl) (fun args r h=>?_) ⟨Try.f10,Try.func10,rfl,rfl⟩
 obtain ⟨⟨x0,_⟩,y,rfl,hy,rfl⟩:=zM h
 exact zm hF (by kernel_rfl) Try.func10 rfl c10 (show 1≤Try.f10.ntmps by decide) (t10 H x0 _ rfl hy)
def zrl:AC:=(.cond (.t 10) .skip (.exit 0))
def zrW:AC:=(.cond (.t 18) .skip (.exit 2))
def zr3:AC:=(.cond (.t 31) (.seq (.reg [] [jv 4 (.mov kf)] []) .ret) .skip)
def zqo:AC:=(.reg [] [jm 19 6,jv 20 (.bin .add (.t 19) (jn 1)),jm 6 20] [])
def zox:AC:=(.seq (.block 3 (.seq (.reg [] [jv 21 (.load (.ag [.s,.p]) (.t 2)),jm 22 1,jm 23 5,jv 24 (.idx (.t 22) (.t 23) 1),jv 25 (.load .s (.t 24)),jm 26 1,jm 27 6,jv 28 (.idx (.t 26) (.t 27) 1),jv 29 (.load .s (.t 28)),jx 30 (.call (jf 57) [.t 21,.t 25,.t 29]),jv 31 (.un .not (.t 30))] []) zr3)) zqo)
def zgO:AC:=(.seq (.seq (.reg [] [jm 15 6,jm 16 1,jv 17 (.len (.t 16)),jv 18 (.bin .lss (.t 15) (.t 17))] []) zrW) zox)
def zoL:AC:=(.block 2 (.loop zgO))
def zgP:AC:=(.reg [] [jm 11 5,jv 12 (.bin .add (.t 11) (jn 1)),jm 5 12] [])
def zs1:AC:=(.seq (.block 1 (.seq (.reg [] [jm 13 5,jv 14 (.bin .add (.t 13) (jn 1)),jm 6 14] []) zoL)) zgP)
def NX:AC:=(.seq (.seq (.reg [] [jm 7 5,jm 8 1,jv 9 (.len (.t 8)),jv 10 (.bin .lss (.t 7) (.t 9))] []) zrl) zs1)
def za4:AC:=(.seq (.reg [] [jv 4 (.mov kt)] []) .ret)
def zmU:AC:=(.block 0 (.loop NX))
def zm3:AC:=(.seq (.seq (.reg [] [jv 5 (.mov (jn 0))] []) zmU) za4)
def A33:AC:=(.seq (.reg [.clr [2]] [jx 2 (.box (.t 0)),jv 4 (.mov kf)] []) zm3)
def ztW:List An:=[⟨0,[.clr [2]],[],[],[]⟩]
theorem c33:cC Try.prog Try.f33.ntmps ztW (Try.f33.body.getD .skip)=some A33:=by kernel_rfl
structure H33 (D:Den) (σ:Sig) (F:Nat):Prop where
 c57:C57 (D 57) F
 g57:σ 57=some (0,false)
abbrev R33 (r:Bool):(Nat→V)→Prop:=RR Try.prog [.tmp 4] 0 false (Enc.enc (r:Bool))
section
variable {D:Den} {σ:Sig} {F:Nat} {r:Bool}
def wX (F:Nat) (x_2:LI) (x_1:GR) (x_13:Int) (c1:Int→Option Bool):Nat→Int→Option Bool
 | 0,_=>none
 | k + 1,x_27=>
   bif decide (x_27 < (x_2.length:Int)) then
    (idx x_2 x_13).bind fun e_31=>
    (idx x_2 x_27).bind fun e_32=>
    (uo F x_1 e_31 e_32).bind fun r_33=>
    bif (!r_33) then
     some false
    else
     (wX F x_2 x_1 x_13 c1 k) (w64 (x_27 + 1))
   else
    c1 (w64 (x_13 + 1))
theorem zix (H:H33 D σ F) (x_2:LI) (x_1:GR) (x_13:Int) (c1:Int→Option Bool) (Hc1:∀ (x_13:Int) (s:Nat→V),zl [(1,eL x_2),(2,bG 2 x_1),(4,jb false),(5,ji x_13)] s→c1 x_13=some r→Run D σ (R33 r) (.run NX [.lp NX,.bk 0,.sq za4]) s):∀ (k:Nat) (x_27:Int) (s:Nat→V),zl [(1,eL x_2),(2,bG 2 x_1),(4,jb false),(5,ji x_13),(6,ji x_27)] s→wX F x_2 x_1 x_13 c1 k x_27=some r→Run D σ (R33 r) (.run zgO [.lp zgO,.bk 2,.bk 1,.sq zgP,.lp NX,.bk 0,.sq za4]) s:=by
 intro k
 induction k with
 | zero=>intro x_27 s _ h;exact nm h
 | succ k ih=>
   intro x_27 s hs h
   rw [wX] at h
   obtain ⟨h1,h2,h4,h5,h6⟩:=hs
   refine .seq (.seq (rg (gm h6 fun h15=>gm h1 fun h16=>gv (ji (x_2.length:Int)) (yu (xs:=x_2) h16) fun h17=>g2 15 17 (jb (decide (x_27 < (x_2.length:Int)))) h15 h17 fun h18=>gq (.nsq (zk (t:=decide (x_27 < (x_2.length:Int))) h18 h (fun h=>?_) (fun h=>?_))))))
   · refine .skip (.nsq (.seq (.block (.seq (rg (g1 2 (gV x_1) h2 fun h21=>gm h1 fun h22=>gm h5 fun h23=>?_))))))
     obtain ⟨e_31,E_e_31,h⟩:=bind_some h
     refine gv (.ref .sh 0 [] (ji e_31)) (yz (t:=.sh) (lo:=0) (xs:=x_2) h22 h23 E_e_31 rfl rfl) fun h24=>g1 24 (ji e_31) h24 fun h25=>gm h1 fun h26=>gm h6 fun h27=>?_
     obtain ⟨e_32,E_e_32,h⟩:=bind_some h
     refine gv (.ref .sh 0 [] (ji e_32)) (yz (t:=.sh) (lo:=0) (xs:=x_2) h26 h27 E_e_32 rfl rfl) fun h28=>g1 28 (ji e_32) h28 fun h29=>?_
     obtain ⟨r_33,E_r_33,h⟩:=bind_some h
     refine zF (m:=0) (al:=false) (r:=Enc.enc (r_33:Bool)) [Enc.enc (x_1:GR),Enc.enc (e_31:Int),Enc.enc (e_32:Int)] (ze (v:=gV x_1) h21 rfl (Enc.erase_enc (x_1:GR)) (ze (v:=ji e_31) h25 rfl rfl (ze (v:=ji e_32) h29 rfl rfl zx))) (H.c57 _ _ _ _ E_r_33) H.g57 rfl rfl rfl rfl (g1 30 (jb (!r_33)) (rf (jb r_33)) fun h31=>gq (.nsq (zk (t:=(!r_33)) h31 h (fun h=>?_) (fun h=>?_))))
     · refine .seq (rg (g0 (jb false) fun h4=>gq (.nsq (.ret ?_))))
       have hr:=Option.some.inj h
       subst hr
       exact rrA (zn h4) rfl
     refine .skip (.nbk (.nsq (rg (gm h6 fun h19=>g1 19 (ji (w64 (x_27 + 1))) h19 fun h20=>gm h20 fun h6=>gq (.nlp ?_)))))
     exact ih (w64 (x_27 + 1)) _ ⟨h1,h2,h4,h5,h6⟩ h
   refine .exit (.esq (.elp (.ebk (.nbk (.nsq (rg (gm h5 fun h11=>g1 11 (ji (w64 (x_13 + 1))) h11 fun h12=>gm h12 fun h5=>gq (.nlp ?_))))))))
   exact Hc1 (w64 (x_13 + 1)) _ ⟨h1,h2,h4,h5⟩ h
def xE (F:Nat) (x_2:LI) (x_1:GR) :Nat→Int→Option Bool
 | 0,_=>none
 | k + 1,x_13=>
   bif decide (x_13 < (x_2.length:Int)) then
    wX F x_2 x_1 x_13 (xE F x_2 x_1 k) F (w64 (x_13 + 1))
   else
    some true
theorem zh7 (H:H33 D σ F) (x_2:LI) (x_1:GR) :∀ (k:Nat) (x_13:Int) (s:Nat→V),zl [(1,eL x_2),(2,bG 2 x_1),(4,jb false),(5,ji x_13)] s→xE F x_2 x_1 k x_13=some r→Run D σ (R33 r) (.run NX [.lp NX,.bk 0,.sq za4]) s:=by
 intro k
 induction k with
 | zero=>intro x_13 s _ h;exact nm h
 | succ k ih=>
   intro x_13 s hs h
   rw [xE] at h
   obtain ⟨h1,h2,h4,h5⟩:=hs
   refine .seq (.seq (rg (gm h5 fun h7=>gm h1 fun h8=>gv (ji (x_2.length:Int)) (yu (xs:=x_2) h8) fun h9=>g2 7 9 (jb (decide (x_13 < (x_2.length:Int)))) h7 h9 fun h10=>gq (.nsq (zk (t:=decide (x_13 < (x_2.length:Int))) h10 h (fun h=>?_) (fun h=>?_))))))
   · refine .skip (.nsq (.seq (.block (.seq (rg (gm h5 fun h13=>g1 13 (ji (w64 (x_13 + 1))) h13 fun h14=>gm h14 fun h6=>gq (.nsq (.block (.loop ?_)))))))))
     exact zix H x_2 x_1 x_13 (xE F x_2 x_1 k) ih F (w64 (x_13 + 1)) _ ⟨h1,h2,h4,h5,h6⟩ h
   refine .exit (.esq (.elp (.ebk (.nsq (.seq (rg (g0 (jb true) fun h4=>gq (.nsq (.ret ?_)))))))))
   have hr:=Option.some.inj h
   subst hr
   exact rrA (zn h4) rfl
def ZF (F:Nat) (x_1:GR) (x_2:LI):Option Bool:=
 xE F x_2 x_1 F 0
theorem t33 (H:H33 D σ F) (x_1:GR) (x_2:LI) (s:Nat→V) (hs:zl [(0,gV x_1),(1,eL x_2)] s) (h:ZF F x_1 x_2=some r):Run D σ (R33 r) (.run A33 []) s:=by
 unfold ZF at h
 obtain ⟨h0,h1⟩:=hs
 refine .seq (zq (zS ?_))
 refine ez [(0,_),(1,_),(2,_)] ⟨za h0 rfl mIE,za h1 rfl me,zc rfl⟩ ?_
 rintro s ⟨h0,h1,h2⟩
 refine xz (gV x_1) (zw h0 rfl) h2 rfl (g0 (jb false) fun h4=>gq (.nsq (.seq (.seq (rg (g0 (ji 0) fun h5=>gq (.nsq (.block (.loop ?_)))))))))
 exact zh7 H x_2 x_1 F 0 _ ⟨h1,rfl,h4,h5⟩ h
end
def e33 (F:Nat):Ent:=ent 33 (fun (x:(GR×LI×Unit))=>ZF F x.1 x.2.1) (fun (r:Bool)=>(Enc.enc (r:Bool))) 0 false []
abbrev C33 (D:List V→Option V) (F:Nat):Prop:=∀ (x0:GR) (x1:LI) r,ZF F x0 x1=some r→D [Enc.enc x0,Enc.enc x1]=some (Enc.enc (r:Bool))
theorem p33 {F:Nat}:C33 (e33 F).den F:=fun x0 x1 _ h=>zN (x0,x1,()) h
theorem o33 {D:Den} {σ:Sig} {F:Nat} (hF:zy Try.prog D σ) (H:H33 D σ F):(e33 F).Ok Try.prog:=by
 refine yl (f:=33) (show unk 33=33 from rfl) (fun args r h=>?_) ⟨Try.f33,Try.func33,rfl,rfl⟩
 obtain ⟨⟨x0,x1,_⟩,y,rfl,hy,rfl⟩:=zM h
 exact zm hF (by kernel_rfl) Try.func33 rfl c33 (show 2≤Try.f33.ntmps by decide) (t33 H x0 x1 _ ⟨rfl,rfl⟩ hy)
def zll:AC:=(.cond (.t 15) .skip (.exit 0))
def zrV:AC:=(.cond (.t 26) (.seq (.reg [] [jm 27 0,jm 28 5,jv 29 (.idx (.t 27) (.t 28) 1),jv 30 (.load .s (.t 29)),jm 31 1,jm 32 5,jv 33 (.idx (.t 31) (.t 32) 1),jv 34 (.load .s (.t 33)),jv 35 (.bin .lss (.t 30) (.t 34)),jm 4 35] []) .ret) .skip)
def zpe:AC:=(.reg [] [jm 16 5,jv 17 (.bin .add (.t 16) (jn 1)),jm 5 17] [])
def zk5:AC:=(.seq (.block 1 (.seq (.reg [] [jm 18 0,jm 19 5,jv 20 (.idx (.t 18) (.t 19) 1),jv 21 (.load .s (.t 20)),jm 22 1,jm 23 5,jv 24 (.idx (.t 22) (.t 23) 1),jv 25 (.load .s (.t 24)),jv 26 (.bin .neq (.t 21) (.t 25))] []) zrV)) zpe)
def NC:AC:=(.seq (.seq (.reg [] [jm 6 5,jm 7 0,jv 8 (.len (.t 7)),jv 9 (.bin .lss (.t 6) (.t 8)),jm 10 9,jg 11 10 true (.mov (.t 5)),jg 12 10 true (.mov (.t 1)),jg 13 10 true (.len (.t 12)),jg 14 10 true (.bin .lss (.t 11) (.t 13)),jv 15 (.pick (.t 10) (.t 14) kf)] []) zll) zk5)
def zeN:AC:=(.seq (.reg [] [jm 36 0,jv 37 (.len (.t 36)),jm 38 1,jv 39 (.len (.t 38)),jv 40 (.bin .lss (.t 37) (.t 39)),jm 4 40] []) .ret)
def zqF:AC:=(.block 0 (.loop NC))
def zrh:AC:=(.seq (.seq (.reg [] [jv 5 (.mov (jn 0))] []) zqF) zeN)
def A34:AC:=(.seq (.reg [] [jv 4 (.mov kf)] []) zrh)
def zub:List An:=[]
theorem c34:cC Try.prog Try.f34.ntmps zub (Try.f34.body.getD .skip)=some A34:=by kernel_rfl
structure H34 (D:Den) (σ:Sig) (F:Nat):Prop where
 mk ::
abbrev R34 (r:Bool):(Nat→V)→Prop:=RR Try.prog [.tmp 4] 0 false (Enc.enc (r:Bool))
section
variable {D:Den} {σ:Sig} {F:Nat} {r:Bool}
def ZP (F:Nat) (x_1:LI) (x_2:LI) (x_10:Int) (c1:Int→Option Bool) (x_18:Bool):Option Bool:=
 bif x_18 then
  (idx x_1 x_10).bind fun e_19=>
  (idx x_2 x_10).bind fun e_20=>
  bif (e_19 != e_20) then
   (idx x_1 x_10).bind fun e_23=>
   (idx x_2 x_10).bind fun e_24=>
   some (decide (e_23 < e_24))
  else
   c1 (w64 (x_10 + 1))
 else
  some (decide ((x_1.length:Int) < (x_2.length:Int)))
theorem zcq (H:H34 D σ F) (x_1:LI) (x_2:LI) (x_10:Int) (c1:Int→Option Bool) (Hc1:∀ (x_10:Int) (s:Nat→V),zl [(0,eL x_1),(1,eL x_2),(4,jb false),(5,ji x_10)] s→c1 x_10=some r→Run D σ (R34 r) (.run NC [.lp NC,.bk 0,.sq zeN]) s) (x_18:Bool) (s:Nat→V) (hs:zl [(0,eL x_1),(1,eL x_2),(4,jb false),(5,ji x_10),(15,jb x_18)] s) (h:ZP F x_1 x_2 x_10 c1 x_18=some r):Run D σ (R34 r) (.nrm [.sq zll,.sq zk5,.lp NC,.bk 0,.sq zeN]) s:=by
 unfold ZP at h
 obtain ⟨h0,h1,h4,h5,h15⟩:=hs
 refine .nsq (zk (t:=x_18) h15 h (fun h=>?_) (fun h=>?_))
 · refine .skip (.nsq (.seq (.block (.seq (rg (gm h0 fun h18=>gm h5 fun h19=>?_))))))
   obtain ⟨e_19,E_e_19,h⟩:=bind_some h
   refine gv (.ref .sh 0 [] (ji e_19)) (yz (t:=.sh) (lo:=0) (xs:=x_1) h18 h19 E_e_19 rfl rfl) fun h20=>g1 20 (ji e_19) h20 fun h21=>gm h1 fun h22=>gm h5 fun h23=>?_
   obtain ⟨e_20,E_e_20,h⟩:=bind_some h
   refine gv (.ref .sh 0 [] (ji e_20)) (yz (t:=.sh) (lo:=0) (xs:=x_2) h22 h23 E_e_20 rfl rfl) fun h24=>g1 24 (ji e_20) h24 fun h25=>g2 21 25 (jb (e_19 != e_20)) h21 h25 fun h26=>gq (.nsq (zk (t:=(e_19 != e_20)) h26 h (fun h=>?_) (fun h=>?_)))
   · refine .seq (rg (gm h0 fun h27=>gm h5 fun h28=>?_))
     obtain ⟨e_23,E_e_23,h⟩:=bind_some h
     refine gv (.ref .sh 0 [] (ji e_23)) (yz (t:=.sh) (lo:=0) (xs:=x_1) h27 h28 E_e_23 rfl rfl) fun h29=>g1 29 (ji e_23) h29 fun h30=>gm h1 fun h31=>gm h5 fun h32=>?_
     obtain ⟨e_24,E_e_24,h⟩:=bind_some h
     refine gv (.ref .sh 0 [] (ji e_24)) (yz (t:=.sh) (lo:=0) (xs:=x_2) h31 h32 E_e_24 rfl rfl) fun h33=>g1 33 (ji e_24) h33 fun h34=>g2 30 34 (jb (decide (e_23 < e_24))) h30 h34 fun h35=>gm h35 fun h4=>gq (.nsq (.ret ?_))
     have hr:=Option.some.inj h
     subst hr
     exact rrA (zn h4) rfl
   refine .skip (.nbk (.nsq (rg (gm h5 fun h16=>g1 16 (ji (w64 (x_10 + 1))) h16 fun h17=>gm h17 fun h5=>gq (.nlp ?_)))))
   exact Hc1 (w64 (x_10 + 1)) _ ⟨h0,h1,h4,h5⟩ h
 refine .exit (.esq (.elp (.ebk (.nsq (.seq (rg (gm h0 fun h36=>gv (ji (x_1.length:Int)) (yu (xs:=x_1) h36) fun h37=>gm h1 fun h38=>gv (ji (x_2.length:Int)) (yu (xs:=x_2) h38) fun h39=>g2 37 39 (jb (decide ((x_1.length:Int) < (x_2.length:Int)))) h37 h39 fun h40=>gm h40 fun h4=>gq (.nsq (.ret ?_)))))))))
 have hr:=Option.some.inj h
 subst hr
 exact rrA (zn h4) rfl
def wU (F:Nat) (x_1:LI) (x_2:LI) :Nat→Int→Option Bool
 | 0,_=>none
 | k + 1,x_10=>
   bif decide (x_10 < (x_1.length:Int)) then
    ZP F x_1 x_2 x_10 (wU F x_1 x_2 k) (decide (x_10 < (x_2.length:Int)))
   else
    ZP F x_1 x_2 x_10 (wU F x_1 x_2 k) false
theorem zit (H:H34 D σ F) (x_1:LI) (x_2:LI) :∀ (k:Nat) (x_10:Int) (s:Nat→V),zl [(0,eL x_1),(1,eL x_2),(4,jb false),(5,ji x_10)] s→wU F x_1 x_2 k x_10=some r→Run D σ (R34 r) (.run NC [.lp NC,.bk 0,.sq zeN]) s:=by
 intro k
 induction k with
 | zero=>intro x_10 s _ h;exact nm h
 | succ k ih=>
   intro x_10 s hs h
   rw [wU] at h
   obtain ⟨h0,h1,h4,h5⟩:=hs
   refine .seq (.seq (rg (gm h5 fun h6=>gm h0 fun h7=>gv (ji (x_1.length:Int)) (yu (xs:=x_1) h7) fun h8=>g2 6 8 (jb (decide (x_10 < (x_1.length:Int)))) h6 h8 fun h9=>gm h9 fun h10=>zW (c:=decide (x_10 < (x_1.length:Int))) h (fun hg5 h=>?_) (fun hg5 h=>?_))))
   · refine zg (ct h10 hg5) (gm h5 fun h11=>zg (ct h10 hg5) (gm h1 fun h12=>zg (ct h10 hg5) (gv (ji (x_2.length:Int)) (yu (xs:=x_2) h12) fun h13=>zg (ct h10 hg5) (g2 11 13 (jb (decide (x_10 < (x_2.length:Int)))) h11 h13 fun h14=>g2 10 14 (jb (decide (x_10 < (x_2.length:Int)))) (ct h10 hg5) h14 fun h15=>gq ?_))))
     exact zcq H x_1 x_2 x_10 (wU F x_1 x_2 k) ih (decide (x_10 < (x_2.length:Int))) _ ⟨h0,h1,h4,h5,h15⟩ h
   iterate 4 refine z9 (ct h10 hg5) ?_
   refine g2 10 14 (jb false) (ct h10 hg5) (rf (.tup [])) fun h15=>gq ?_
   exact zcq H x_1 x_2 x_10 (wU F x_1 x_2 k) ih false _ ⟨h0,h1,h4,h5,h15⟩ h
def XS (F:Nat) (x_1:LI) (x_2:LI):Option Bool:=
 wU F x_1 x_2 F 0
theorem t34 (H:H34 D σ F) (x_1:LI) (x_2:LI) (s:Nat→V) (hs:zl [(0,eL x_1),(1,eL x_2)] s) (h:XS F x_1 x_2=some r):Run D σ (R34 r) (.run A34 []) s:=by
 unfold XS at h
 obtain ⟨h0,h1⟩:=hs
 refine .seq (rg (g0 (jb false) fun h4=>gq (.nsq (.seq (.seq (rg (g0 (ji 0) fun h5=>gq (.nsq (.block (.loop ?_))))))))))
 exact zit H x_1 x_2 F 0 _ ⟨h0,h1,h4,h5⟩ h
end
def e34 (F:Nat):Ent:=ent 34 (fun (x:(LI×LI×Unit))=>XS F x.1 x.2.1) (fun (r:Bool)=>(Enc.enc (r:Bool))) 0 false []
abbrev C34 (D:List V→Option V) (F:Nat):Prop:=∀ (x0:LI) (x1:LI) r,XS F x0 x1=some r→D [Enc.enc x0,Enc.enc x1]=some (Enc.enc (r:Bool))
theorem p34 {F:Nat}:C34 (e34 F).den F:=fun x0 x1 _ h=>zN (x0,x1,()) h
theorem o34 {D:Den} {σ:Sig} {F:Nat} (hF:zy Try.prog D σ) (H:H34 D σ F):(e34 F).Ok Try.prog:=by
 refine yl (f:=34) (show unk 34=34 from rfl) (fun args r h=>?_) ⟨Try.f34,Try.func34,rfl,rfl⟩
 obtain ⟨⟨x0,x1,_⟩,y,rfl,hy,rfl⟩:=zM h
 exact zm hF (by kernel_rfl) Try.func34 rfl c34 (show 2≤Try.f34.ntmps by decide) (t34 H x0 x1 _ ⟨rfl,rfl⟩ hy)
def zqC:AC:=(.cond (.t 16) .skip (.exit 0))
def zld:AC:=(.cond (.t 44) (.reg [] [jm 45 6,jm 4 45] []) .skip)
def zn9:AC:=(.seq (.reg [] [jv 23 (.load (.ag [.s,.p]) (.t 1)),jm 24 6,jx 25 (.call (jf 33) [.t 23,.t 24]),jm 26 25,jg 27 26 true (.mov (.t 6)),jg 28 26 true (.len (.t 27)),jg 29 26 true (.mov (.t 4)),jg 30 26 true (.len (.t 29)),jg 31 26 true (.bin .gtr (.t 28) (.t 30)),jg 32 26 true (.mov (.t 31)),jg 33 32 false (.mov (.t 6)),jg 34 32 false (.len (.t 33)),jg 35 32 false (.mov (.t 4)),jg 36 32 false (.len (.t 35)),jg 37 32 false (.bin .eql (.t 34) (.t 36)),jg 38 32 false (.mov (.t 37)),jg 39 38 true (.mov (.t 6)),jg 40 38 true (.mov (.t 4)),.mk (some 41) (some (38,true)) false (.call (jf 34) [.t 39,.t 40]),jg 42 32 false (.pick (.t 38) (.t 41) kf),jg 43 26 true (.pick (.t 32) kt (.t 42)),jv 44 (.pick (.t 26) (.t 43) kf)] []) zld)
def zhd:AC:=(.reg [] [jm 17 5,jv 18 (.bin .add (.t 17) (jn 1)),jm 5 18] [])
def zsq:AC:=(.seq (.block 1 (.seq (.reg [] [jv 19 (.fld (.t 1) 0 0),jv 20 (.load .s (.t 19)),jm 21 5,jx 22 (.call (jf 32) [.t 20,.t 21]),jm 6 22] []) zn9)) zhd)
def JI:AC:=(.seq (.seq (.reg [] [jm 12 5,jv 13 (.fld (.t 1) 0 0),jv 14 (.load .s (.t 13)),jv 15 (.bin .shl (jn 1) (.t 14)),jv 16 (.bin .lss (.t 12) (.t 15))] []) zqC) zsq)
def N1:AC:=(.seq (.reg [] [jm 46 4,jm 2 46,jv 3 (.mov kt)] []) .ret)
def znq:AC:=(.cond (.t 10) (.seq (.reg [] [jm 11 4,jm 2 11,jv 3 (.mov kf)] []) .ret) .skip)
def zlx:AC:=(.block 0 (.loop JI))
def zmu:AC:=(.seq (.seq (.reg [] [jv 5 (.mov (jn 1))] []) zlx) N1)
def zo9:AC:=(.seq (.seq (.reg [] [jv 8 (.load (.ag [.s,.p]) (.t 1)),jx 9 (.call (jf 22) [.t 8]),jv 10 (.un .not (.t 9))] []) znq) zmu)
def zpw:AC:=(.seq (.reg [.clr [7]] [jx 7 (.lit i0 0 []),jm 4 7] [.home 7 4,.frz 4]) zo9)
def A11:AC:=(.seq (.reg [.clr [1]] [jx 1 (.box (.t 0)),jv 2 (.mov (.k (.sl .nl .s 0 []))),jv 3 (.mov kf)] []) zpw)
def zup:List An:=[⟨0,[.clr [1]],[],[],[]⟩,⟨1,[.clr [7]],[],[],[.home 7 4,.frz 4]⟩]
theorem c11:cC Try.prog Try.f11.ntmps zup (Try.f11.body.getD .skip)=some A11:=by kernel_rfl
structure H11 (D:Den) (σ:Sig) (F:Nat):Prop where
 c22:C22 (D 22) F
 g22:σ 22=some (0,false)
 c32:C32 (D 32) F
 g32:σ 32=some (0,false)
 c33:C33 (D 33) F
 g33:σ 33=some (0,false)
 c34:C34 (D 34) F
 g34:σ 34=some (0,false)
abbrev R11 (r:(LI×Bool)):(Nat→V)→Prop:=RR Try.prog [.tmp 2,.tmp 3] 0 true (.tup [eL r.1,Enc.enc (r.2:Bool)])
section
variable {D:Den} {σ:Sig} {F:Nat} {r:(LI×Bool)}
def Zn (F:Nat) (x_1:GR) (x_12:Int) (c1:LI→Int→Option (LI×Bool)) (x_26:LI):Option (LI×Bool):=
 c1 x_26 (w64 (x_12 + 1))
theorem zcb (H:H11 D σ F) (x_1:GR) (x_12:Int) (c1:LI→Int→Option (LI×Bool)) (Hc1:∀ (x_11:LI) (x_12:Int) (s:Nat→V),zl [(1,bG 1 x_1),(2,nI),(3,jb false),(4,eL x_11),(5,ji x_12)] s→c1 x_11 x_12=some r→Run D σ (R11 r) (.run JI [.lp JI,.bk 0,.sq N1]) s) (x_26:LI) (s:Nat→V) (hs:zl [(1,bG 1 x_1),(2,nI),(3,jb false),(4,eL x_26),(5,ji x_12)] s) (h:Zn F x_1 x_12 c1 x_26=some r):Run D σ (R11 r) (.nrm [.bk 1,.sq zhd,.lp JI,.bk 0,.sq N1]) s:=by
 unfold Zn at h
 obtain ⟨h1,h2,h3,h4,h5⟩:=hs
 refine .nbk (.nsq (rg (gm h5 fun h17=>g1 17 (ji (w64 (x_12 + 1))) h17 fun h18=>gm h18 fun h5=>gq (.nlp ?_))))
 exact Hc1 x_26 (w64 (x_12 + 1)) _ ⟨h1,h2,h3,h4,h5⟩ h
def vO (F:Nat) (x_1:GR) (x_11:LI) (x_12:Int) (r_22:LI) (c1:LI→Int→Option (LI×Bool)) (x_25:Bool):Option (LI×Bool):=
 bif x_25 then
  Zn F x_1 x_12 c1 r_22
 else
  Zn F x_1 x_12 c1 x_11
theorem JJ (H:H11 D σ F) (x_1:GR) (x_11:LI) (x_12:Int) (r_22:LI) (c1:LI→Int→Option (LI×Bool)) (Hc1:∀ (x_11:LI) (x_12:Int) (s:Nat→V),zl [(1,bG 1 x_1),(2,nI),(3,jb false),(4,eL x_11),(5,ji x_12)] s→c1 x_11 x_12=some r→Run D σ (R11 r) (.run JI [.lp JI,.bk 0,.sq N1]) s) (x_25:Bool) (s:Nat→V) (hs:zl [(1,bG 1 x_1),(2,nI),(3,jb false),(4,eL x_11),(5,ji x_12),(6,eL r_22),(44,jb x_25)] s) (h:vO F x_1 x_11 x_12 r_22 c1 x_25=some r):Run D σ (R11 r) (.nrm [.sq zld,.bk 1,.sq zhd,.lp JI,.bk 0,.sq N1]) s:=by
 unfold vO at h
 obtain ⟨h1,h2,h3,h4,h5,h6,h44⟩:=hs
 refine .nsq (zk (t:=x_25) h44 h (fun h=>?_) (fun h=>?_))
 · refine rg (gm h6 fun h45=>gm h45 fun h4=>gq ?_)
   exact zcb H x_1 x_12 c1 Hc1 r_22 _ ⟨h1,h2,h3,h4,h5⟩ h
 refine .skip ?_
 exact zcb H x_1 x_12 c1 Hc1 x_11 _ ⟨h1,h2,h3,h4,h5⟩ h
def yW (F:Nat) (x_1:GR) :Nat→LI→Int→Option (LI×Bool)
 | 0,_,_=>none
 | k + 1,x_11,x_12=>
   (vR .i64 1 x_1.1).bind fun q_21=>
   bif decide (x_12 < q_21) then
    (Zx F x_1.1 x_12).bind fun r_22=>
    (ZF F x_1 r_22).bind fun r_27=>
    bif r_27 then
     bif decide ((r_22.length:Int) > (x_11.length:Int)) then
      vO F x_1 x_11 x_12 r_22 (yW F x_1 k) true
     else
      bif ((r_22.length:Int) == (x_11.length:Int)) then
       (XS F r_22 x_11).bind fun r_28=>
       vO F x_1 x_11 x_12 r_22 (yW F x_1 k) r_28
      else
       vO F x_1 x_11 x_12 r_22 (yW F x_1 k) false
    else
     vO F x_1 x_11 x_12 r_22 (yW F x_1 k) false
   else
    some (x_11,true)
theorem zhl (H:H11 D σ F) (x_1:GR) :∀ (k:Nat) (x_11:LI) (x_12:Int) (s:Nat→V),zl [(1,bG 1 x_1),(2,nI),(3,jb false),(4,eL x_11),(5,ji x_12)] s→yW F x_1 k x_11 x_12=some r→Run D σ (R11 r) (.run JI [.lp JI,.bk 0,.sq N1]) s:=by
 intro k
 induction k with
 | zero=>intro x_11 x_12 s _ h;exact nm h
 | succ k ih=>
   intro x_11 x_12 s hs h
   rw [yW] at h
   obtain ⟨h1,h2,h3,h4,h5⟩:=hs
   refine .seq (.seq (rg (gm h5 fun h12=>g1 1 (.ref (.bx 1) 0 [0] (ji x_1.1)) h1 fun h13=>g1 13 (ji x_1.1) h13 fun h14=>?_)))
   obtain ⟨q_21,E_q_21,h⟩:=bind_some h
   refine gv (ji q_21) (wP rfl h14 E_q_21) fun h15=>g2 12 15 (jb (decide (x_12 < q_21))) h12 h15 fun h16=>gq (.nsq (zk (t:=decide (x_12 < q_21)) h16 h (fun h=>?_) (fun h=>?_)))
   · refine .skip (.nsq (.seq (.block (.seq (rg (g1 1 (.ref (.bx 1) 0 [0] (ji x_1.1)) h1 fun h19=>g1 19 (ji x_1.1) h19 fun h20=>gm h5 fun h21=>?_))))))
     obtain ⟨r_22,E_r_22,h⟩:=bind_some h
     refine zF (m:=0) (al:=false) (r:=eL r_22) [Enc.enc (x_1.1:Int),Enc.enc (x_12:Int)] (ze (v:=ji x_1.1) h20 rfl rfl (ze (v:=ji x_12) h21 rfl rfl zx)) (H.c32 _ _ _ E_r_22) H.g32 rfl rfl rfl rfl (gm (rf (eL r_22)) fun h6=>gq (.nsq (.seq (rg (g1 1 (gV x_1) h1 fun h23=>gm h6 fun h24=>?_)))))
     obtain ⟨r_27,E_r_27,h⟩:=bind_some h
     refine zF (m:=0) (al:=false) (r:=Enc.enc (r_27:Bool)) [Enc.enc (x_1:GR),eL r_22] (ze (v:=gV x_1) h23 rfl (Enc.erase_enc (x_1:GR)) (ze (v:=eL r_22) h24 rfl (Enc.erase_enc (r_22:LI)) zx)) (H.c33 _ _ _ E_r_27) H.g33 rfl rfl rfl rfl (gm (rf (jb r_27)) fun h26=>zW (c:=r_27) h (fun hg4 h=>?_) (fun hg4 h=>?_))
     · refine zg (ct h26 hg4) (gm h6 fun h27=>zg (ct h26 hg4) (gv (ji (r_22.length:Int)) (yu (xs:=r_22) h27) fun h28=>zg (ct h26 hg4) (gm h4 fun h29=>zg (ct h26 hg4) (gv (ji (x_11.length:Int)) (yu (xs:=x_11) h29) fun h30=>zg (ct h26 hg4) (g2 28 30 (jb (decide ((r_22.length:Int) > (x_11.length:Int)))) h28 h30 fun h31=>zg (ct h26 hg4) (gm h31 fun h32=>zW (c:=decide ((r_22.length:Int) > (x_11.length:Int))) h (fun hg10 h=>?_) (fun hg10 h=>?_)))))))
       · iterate 6 refine z9 (ct h32 hg10) ?_
         iterate 3 refine uw rfl ?_
         refine z9 (ct h32 hg10) (zg (ct h26 hg4) (g2 32 42 (jb true) (ct h32 hg10) (rf (.tup [])) fun h43=>g2 26 43 (jb true) (ct h26 hg4) h43 fun h44=>gz [(1,_),(2,_),(3,_),(4,_),(5,_),(6,_),(44,_)] ⟨h1,h2,h3,h4,h5,h6,h44⟩ ?_))
         rintro s ⟨h1,h2,h3,h4,h5,h6,h44⟩
         exact JJ H x_1 x_11 x_12 r_22 (yW F x_1 k) ih true _ ⟨h1,h2,h3,h4,h5,h6,h44⟩ h
       refine zg (ct h32 hg10) (gm h6 fun h33=>zg (ct h32 hg10) (gv (ji (r_22.length:Int)) (yu (xs:=r_22) h33) fun h34=>zg (ct h32 hg10) (gm h4 fun h35=>zg (ct h32 hg10) (gv (ji (x_11.length:Int)) (yu (xs:=x_11) h35) fun h36=>zg (ct h32 hg10) (g2 34 36 (jb ((r_22.length:Int) == (x_11.length:Int))) h34 h36 fun h37=>zg (ct h32 hg10) (gm h37 fun h38=>zW (c:=((r_22.length:Int) == (x_11.length:Int))) h (fun hg16 h=>?_) (fun hg16 h=>?_)))))))
       · refine zg (ct h38 hg16) (gm h6 fun h39=>zg (ct h38 hg16) (gm h4 fun h40=>?_))
         obtain ⟨r_28,E_r_28,h⟩:=bind_some h
         refine zg (ct h38 hg16) (zF (m:=0) (al:=false) (r:=Enc.enc (r_28:Bool)) [eL r_22,eL x_11] (ze (v:=eL r_22) h39 rfl (Enc.erase_enc (r_22:LI)) (ze (v:=eL x_11) h40 rfl (Enc.erase_enc (x_11:LI)) zx)) (H.c34 _ _ _ E_r_28) H.g34 rfl rfl rfl rfl (zg (ct h32 hg10) (g2 38 41 (jb r_28) (ct h38 hg16) (rf (jb r_28)) fun h42=>zg (ct h26 hg4) (g2 32 42 (jb r_28) (ct h32 hg10) h42 fun h43=>g2 26 43 (jb r_28) (ct h26 hg4) h43 fun h44=>gz [(1,_),(2,_),(3,_),(4,_),(5,_),(6,_),(44,_)] ⟨h1,h2,h3,h4,h5,h6,h44⟩ ?_))))
         rintro s ⟨h1,h2,h3,h4,h5,h6,h44⟩
         exact JJ H x_1 x_11 x_12 r_22 (yW F x_1 k) ih r_28 _ ⟨h1,h2,h3,h4,h5,h6,h44⟩ h
       iterate 3 refine z9 (ct h38 hg16) ?_
       refine zg (ct h32 hg10) (g2 38 41 (jb false) (ct h38 hg16) (rf (.tup [])) fun h42=>zg (ct h26 hg4) (g2 32 42 (jb false) (ct h32 hg10) h42 fun h43=>g2 26 43 (jb false) (ct h26 hg4) h43 fun h44=>gz [(1,_),(2,_),(3,_),(4,_),(5,_),(6,_),(44,_)] ⟨h1,h2,h3,h4,h5,h6,h44⟩ ?_))
       rintro s ⟨h1,h2,h3,h4,h5,h6,h44⟩
       exact JJ H x_1 x_11 x_12 r_22 (yW F x_1 k) ih false _ ⟨h1,h2,h3,h4,h5,h6,h44⟩ h
     iterate 6 refine z9 (ct h26 hg4) ?_
     iterate 10 refine uw rfl ?_
     refine z9 (ct h26 hg4) (g2 26 43 (jb false) (ct h26 hg4) (rf (.tup [])) fun h44=>gz [(1,_),(2,_),(3,_),(4,_),(5,_),(6,_),(44,_)] ⟨h1,h2,h3,h4,h5,h6,h44⟩ ?_)
     rintro s ⟨h1,h2,h3,h4,h5,h6,h44⟩
     exact JJ H x_1 x_11 x_12 r_22 (yW F x_1 k) ih false _ ⟨h1,h2,h3,h4,h5,h6,h44⟩ h
   refine .exit (.esq (.elp (.ebk (.nsq (.seq (rg (gm h4 fun h46=>gm h46 fun h2=>g0 (jb true) fun h3=>gq (.nsq (.ret ?_)))))))))
   have hr:=Option.some.inj h
   subst hr
   exact rrB (zn h2) (zn h3) (Yo (Xd (xe (vD (x:=(x_11:LI))) (xe (vD (x:=(true:Bool))) uj))))
def uQ (F:Nat) (x_1:GR):Option (LI×Bool):=
 (uk F x_1).bind fun r_2=>
 bif (!r_2) then
  some ([],false)
 else
  yW F x_1 F [] 1
theorem t11 (H:H11 D σ F) (x_1:GR) (s:Nat→V) (hs:zl [(0,gV x_1)] s) (h:uQ F x_1=some r):Run D σ (R11 r) (.run A11 []) s:=by
 unfold uQ at h
 have h0:=hs
 refine .seq (zq (zS ?_))
 refine ez [(0,_),(1,_)] ⟨za h0 rfl mIE,zc rfl⟩ ?_
 rintro s ⟨h0,h1⟩
 refine xz (gV x_1) (zw h0 rfl) h1 rfl (g0 nI fun h2=>g0 (jb false) fun h3=>gq (.nsq (.seq (zq (zS ?_)))))
 refine ez [(1,_),(2,_),(3,_),(7,_)] ⟨za rfl rfl (zf rfl mIE),za h2 rfl rfl,za h3 rfl mb,zc rfl⟩ ?_
 rintro s ⟨h1,h2,h3,h7⟩
 refine xT [] [] trivial rfl rfl h7 (gm (rf (oI 7 [] (.of []))) fun h4=>yQ (yC (r:=7) (x:=4) (v:=_) h4 rfl (fun s_3 hg_3=>K1 (x:=4) (v:=oI 4 [] (.of [])) [.at 4 []] (by exact (hg_3 4 _ _ h4 (zj (r:=7) (p:=[]) rfl rfl))) yw (fun s_4 hg_4=>?_))))
 refine ez [(1,bG 1 x_1),(2,nI),(3,jb false),(4,eL [])] ⟨hg_4 1 (bG 1 x_1) (bG 1 x_1) (hg_3 1 _ _ h1 (zf rfl mIE)) (ye rfl zIE rfl),hg_4 2 nI nI (hg_3 2 _ nI h2 rfl) rfl,hg_4 3 (jb false) (jb false) (hg_3 3 _ _ h3 mb) rfl,hg_4 4 (oI 4 [] (.of [])) (eL []) (hg_3 4 _ _ h4 (zj (r:=7) (p:=[]) rfl rfl)) Xb⟩ ?_
 rintro s ⟨h1,h2,h3,h4⟩
 refine .nsq (.seq (.seq (rg (g1 1 (gV x_1) h1 fun h8=>?_))))
 obtain ⟨r_2,E_r_2,h⟩:=bind_some h
 refine zF (m:=0) (al:=false) (r:=Enc.enc (r_2:Bool)) [Enc.enc (x_1:GR)] (ze (v:=gV x_1) h8 rfl (Enc.erase_enc (x_1:GR)) zx) (H.c22 _ _ E_r_2) H.g22 rfl rfl rfl rfl (g1 9 (jb (!r_2)) (rf (jb r_2)) fun h10=>gq (.nsq (zk (t:=(!r_2)) h10 h (fun h=>?_) (fun h=>?_))))
 · refine .seq (rg (gm h4 fun h11=>gm h11 fun h2=>g0 (jb false) fun h3=>gq (.nsq (.ret ?_))))
   have hr:=Option.some.inj h
   subst hr
   exact rrB (zn h2) (zn h3) (Yo (Xd (xe (vD (x:=([]:LI))) (xe (vD (x:=(false:Bool))) uj))))
 refine .skip (.nsq (.seq (.seq (rg (g0 (ji 1) fun h5=>gq (.nsq (.block (.loop ?_))))))))
 exact zhl H x_1 F [] 1 _ ⟨h1,h2,h3,h4,h5⟩ h
end
def e11 (F:Nat):Ent:=ent 11 (fun (x:(GR×Unit))=>uQ F x.1) (fun (r:(LI×Bool))=>(.tup [eL r.1,Enc.enc (r.2:Bool)])) 0 true []
abbrev C11 (D:List V→Option V) (F:Nat):Prop:=∀ (x0:GR) r,uQ F x0=some r→D [Enc.enc x0]=some (.tup [eL r.1,Enc.enc (r.2:Bool)])
theorem p11 {F:Nat}:C11 (e11 F).den F:=fun x0 _ h=>zN (x0,()) h
theorem o11 {D:Den} {σ:Sig} {F:Nat} (hF:zy Try.prog D σ) (H:H11 D σ F):(e11 F).Ok Try.prog:=by
 refine yl (f:=11) (show unk 11=11 from rfl) (fun args r h=>?_) ⟨Try.f11,Try.func11,rfl,rfl⟩
 obtain ⟨⟨x0,_⟩,y,rfl,hy,rfl⟩:=zM h
 exact zm hF (by kernel_rfl) Try.func11 rfl c11 (show 1≤Try.f11.ntmps by decide) (t11 H x0 _ rfl hy)
def zrk:AC:=(.cond (.t 18) .skip (.exit 0))
def zoe:AC:=(.reg [] [jm 28 7,jv 29 (.fld (.t 4) 0 0),jv 30 (.load .p (.t 29)),jm 31 9,jv 32 (.idx (.t 30) (.t 31) 1),jv 33 (.load .s (.t 32)),jm 34 6,jv 35 (.bin .and (.t 33) (.t 34)),jv 36 (.conv .u64 (.t 35)),jx 37 (.call (jf 35) [.t 36]),jv 38 (.mn [.t 28,.t 37]),jm 7 38] [])
def zlC:AC:=(.reg [] [jv 39 (.bin .add (.t 24) (jn 1)),jm 24 39] [])
def zsD:AC:=(.seq (.block 3 (.seq (.reg [] [jv 26 (.idx (.t 22) (.t 24) 1),jv 27 (.load .s (.t 26)),jm 9 27] []) zoe)) zlC)
def zp1:AC:=(.seq (.cond (.t 25) .skip (.exit 2)) zsD)
def zhU:AC:=(.seq (.reg [] [jv 25 (.bin .lss (.t 24) (.t 23))] []) zp1)
def zpD:AC:=(.block 2 (.loop zhU))
def ziN:AC:=(.reg [] [jm 40 5,jm 41 7,jv 42 (.mx [.t 40,.t 41]),jm 5 42] [])
def zpM:AC:=(.seq (.seq (.reg [] [jm 21 6,jx 22 (.call (jf 29) [.t 21]),jv 23 (.len (.t 22)),jv 24 (.mov (jn 0))] []) zpD) ziN)
def ziV:AC:=(.reg [] [jm 19 6,jv 20 (.bin .add (.t 19) (jn 1)),jm 6 20] [])
def zr8:AC:=(.seq (.block 1 (.seq (.reg [] [jv 7 (.mov (jn 8))] []) zpM)) ziV)
def NA:AC:=(.seq (.seq (.reg [] [jm 15 6,jv 16 (.load (.ag [.p]) (.t 4)),jx 17 (.call (jf 28) [.t 16]),jv 18 (.bin .leq (.t 15) (.t 17))] []) zrk) zr8)
def zai:AC:=(.seq (.reg [] [jm 43 5,jm 2 43,jv 3 (.mov kt)] []) .ret)
def zlM:AC:=(.cond (.t 12) (.seq (.reg [] [jv 2 (.mov (jn 0)),jv 3 (.mov kf)] []) .ret) .skip)
def zmE:AC:=(.block 0 (.loop NA))
def znX:AC:=(.seq (.seq (.reg [] [jv 6 (.mov (jn 1))] []) zmE) zai)
def znJ:AC:=(.seq (.reg [] [jv 5 (.mov (jn (-1)))] []) znX)
def zmn:AC:=(.seq (.reg [.clr [4]] [jv 13 (.load (.ag [.s,.p]) (.t 1)),jx 14 (.call (jf 20) [.t 13]),jx 4 (.alloc (.agg [.sl .nl .s 0 []])),jz (.store (.ag [.p]) (.t 4) (.t 14))] []) znJ)
def zmI:AC:=(.seq (.seq (.reg [] [jv 10 (.load (.ag [.s,.p]) (.t 1)),jx 11 (.call (jf 19) [.t 10]),jv 12 (.un .not (.t 11))] []) zlM) zmn)
def A12:AC:=(.seq (.reg [.clr [1]] [jx 1 (.box (.t 0)),jv 2 (.mov (jn 0)),jv 3 (.mov kf)] []) zmI)
def zuA:List An:=[⟨0,[.clr [1]],[],[],[]⟩,⟨3,[.clr [4]],[],[],[]⟩]
theorem c12:cC Try.prog Try.f12.ntmps zuA (Try.f12.body.getD .skip)=some A12:=by kernel_rfl
structure H12 (D:Den) (σ:Sig) (F:Nat):Prop where
 c19:C19 (D 19) F
 g19:σ 19=some (0,false)
 c20:C20 (D 20) F
 g20:σ 20=some (0,false)
 c28:C28 (D 28) F
 g28:σ 28=some (0,false)
 c29:C29 (D 29) F
 g29:σ 29=some (0,false)
 c35:C35 (D 35) F
 g35:σ 35=some (0,false)
abbrev R12 (r:(Int×Bool)):(Nat→V)→Prop:=RR Try.prog [.tmp 2,.tmp 3] 0 false (.tup [Enc.enc (r.1:Int),Enc.enc (r.2:Bool)])
section
variable {D:Den} {σ:Sig} {F:Nat} {r:(Int×Bool)}
def xP (F:Nat) (r_3:(S1 LI)) (x_17:Int) (x_18:Int) (r_33:LI) (c1:Int→Int→Option (Int×Bool)):Nat→Int→Int→Option (Int×Bool)
 | 0,_,_=>none
 | k + 1,x_37,x_38=>
   bif decide (x_38 < (r_33.length:Int)) then
    (idx r_33 x_38).bind fun e_42=>
    (idx r_3.a e_42).bind fun e_43=>
    (xS F (Kd.mk (IntKind.u64.wrap (yf .i64 e_43 x_18)):Kd .u64)).bind fun r_44=>
    (xP F r_3 x_17 x_18 r_33 c1 k) (if r_44 < x_37 then r_44 else x_37) (w64 (x_38 + 1))
   else
    c1 (if x_37 > x_17 then x_37 else x_17) (w64 (x_18 + 1))
theorem zg6 (H:H12 D σ F) (r_3:(S1 LI)) (x_17:Int) (x_18:Int) (r_33:LI) (c1:Int→Int→Option (Int×Bool)) (Hc1:∀ (x_17:Int) (x_18:Int) (s:Nat→V),zl [(2,ji 0),(3,jb false),(4,.ref (.bx 4) 0 [] (.agg [eL r_3.a])),(5,ji x_17),(6,ji x_18)] s→c1 x_17 x_18=some r→Run D σ (R12 r) (.run NA [.lp NA,.bk 0,.sq zai]) s):∀ (k:Nat) (x_37:Int) (x_38:Int) (s:Nat→V),zl [(2,ji 0),(3,jb false),(4,.ref (.bx 4) 0 [] (.agg [eL r_3.a])),(5,ji x_17),(6,ji x_18),(7,ji x_37),(22,eL r_33),(23,ji (r_33.length:Int)),(24,ji x_38)] s→xP F r_3 x_17 x_18 r_33 c1 k x_37 x_38=some r→Run D σ (R12 r) (.run zhU [.lp zhU,.bk 2,.sq ziN,.bk 1,.sq ziV,.lp NA,.bk 0,.sq zai]) s:=by
 intro k
 induction k with
 | zero=>intro x_37 x_38 s _ h;exact nm h
 | succ k ih=>
   intro x_37 x_38 s hs h
   rw [xP] at h
   obtain ⟨h2,h3,h4,h5,h6,h7,h22,h23,h24⟩:=hs
   refine .seq (rg (g2 24 23 (jb (decide (x_38 < (r_33.length:Int)))) h24 h23 fun h25=>gq (.nsq (.seq (zk (t:=decide (x_38 < (r_33.length:Int))) h25 h (fun h=>?_) (fun h=>?_))))))
   · refine .skip (.nsq (.seq (.block (.seq (rg ?_)))))
     obtain ⟨e_42,E_e_42,h⟩:=bind_some h
     refine gv (.ref .sh 0 [] (ji e_42)) (yz (t:=.sh) (lo:=0) (xs:=r_33) h22 h24 E_e_42 rfl rfl) fun h26=>g1 26 (ji e_42) h26 fun h27=>gm h27 fun h9=>gq (.nsq (rg (gm h7 fun h28=>g1 4 (.ref (.bx 4) 0 [0] (eL r_3.a)) h4 fun h29=>g1 29 (eL r_3.a) h29 fun h30=>gm h9 fun h31=>?_)))
     obtain ⟨e_43,E_e_43,h⟩:=bind_some h
     refine gv (.ref .sh 0 [] (ji e_43)) (yz (t:=.sh) (lo:=0) (xs:=r_3.a) h30 h31 E_e_43 rfl rfl) fun h32=>g1 32 (ji e_43) h32 fun h33=>gm h6 fun h34=>g2 33 34 (ji (yf .i64 e_43 x_18)) h33 h34 fun h35=>g1 35 (.int .u64 (IntKind.u64.wrap (yf .i64 e_43 x_18))) h35 fun h36=>?_
     obtain ⟨r_44,E_r_44,h⟩:=bind_some h
     refine zF (m:=0) (al:=false) (r:=Enc.enc (r_44:Int)) [Enc.enc ((Kd.mk (IntKind.u64.wrap (yf .i64 e_43 x_18)):Kd .u64):(Kd .u64))] (ze (v:=.int .u64 (IntKind.u64.wrap (yf .i64 e_43 x_18))) h36 rfl rfl zx) (H.c35 _ _ E_r_44) H.g35 rfl rfl rfl rfl (g2 28 37 (ji (if r_44 < x_37 then r_44 else x_37)) h28 (rf (ji r_44)) fun h38=>gm h38 fun h7=>gq (.nbk (.nsq (rg (g1 24 (ji (w64 (x_38 + 1))) h24 fun h39=>gm h39 fun h24=>gq (.nlp ?_))))))
     exact ih (if r_44 < x_37 then r_44 else x_37) (w64 (x_38 + 1)) _ ⟨h2,h3,h4,h5,h6,h7,h22,h23,h24⟩ h
   refine .exit (.esq (.elp (.ebk (.nsq (rg (gm h5 fun h40=>gm h7 fun h41=>g2 40 41 (ji (if x_37 > x_17 then x_37 else x_17)) h40 h41 fun h42=>gm h42 fun h5=>gq (.nbk (.nsq (rg (gm h6 fun h19=>g1 19 (ji (w64 (x_18 + 1))) h19 fun h20=>gm h20 fun h6=>gq (.nlp ?_)))))))))))
   exact Hc1 (if x_37 > x_17 then x_37 else x_17) (w64 (x_18 + 1)) _ ⟨h2,h3,h4,h5,h6⟩ h
def xw (F:Nat) (r_3:(S1 LI)) :Nat→Int→Int→Option (Int×Bool)
 | 0,_,_=>none
 | k + 1,x_17,x_18=>
   (yg F r_3).bind fun r_32=>
   bif decide (x_18≤r_32) then
    (vG F x_18).bind fun r_33=>
    xP F r_3 x_17 x_18 r_33 (xw F r_3 k) F 8 0
   else
    some (x_17,true)
theorem zgS (H:H12 D σ F) (r_3:(S1 LI)) :∀ (k:Nat) (x_17:Int) (x_18:Int) (s:Nat→V),zl [(2,ji 0),(3,jb false),(4,.ref (.bx 4) 0 [] (.agg [eL r_3.a])),(5,ji x_17),(6,ji x_18)] s→xw F r_3 k x_17 x_18=some r→Run D σ (R12 r) (.run NA [.lp NA,.bk 0,.sq zai]) s:=by
 intro k
 induction k with
 | zero=>intro x_17 x_18 s _ h;exact nm h
 | succ k ih=>
   intro x_17 x_18 s hs h
   rw [xw] at h
   obtain ⟨h2,h3,h4,h5,h6⟩:=hs
   refine .seq (.seq (rg (gm h6 fun h15=>g1 4 (.agg [eL r_3.a]) h4 fun h16=>?_)))
   obtain ⟨r_32,E_r_32,h⟩:=bind_some h
   refine zF (m:=0) (al:=false) (r:=Enc.enc (r_32:Int)) [Enc.enc (r_3:(S1 LI))] (ze (v:=.agg [eL r_3.a]) h16 rfl (Enc.erase_enc (r_3:(S1 LI))) zx) (H.c28 _ _ E_r_32) H.g28 rfl rfl rfl rfl (g2 15 17 (jb (decide (x_18≤r_32))) h15 (rf (ji r_32)) fun h18=>gq (.nsq (zk (t:=decide (x_18≤r_32)) h18 h (fun h=>?_) (fun h=>?_))))
   · refine .skip (.nsq (.seq (.block (.seq (rg (g0 (ji 8) fun h7=>gq (.nsq (.seq (.seq (rg (gm h6 fun h21=>?_)))))))))))
     obtain ⟨r_33,E_r_33,h⟩:=bind_some h
     refine zF (m:=0) (al:=false) (r:=eL r_33) [Enc.enc (x_18:Int)] (ze (v:=ji x_18) h21 rfl rfl zx) (H.c29 _ _ E_r_33) H.g29 rfl rfl rfl rfl (gv (ji (r_33.length:Int)) (yu (xs:=r_33) rfl) fun h23=>g0 (ji 0) fun h24=>gq (.nsq (.block (.loop ?_))))
     exact zg6 H r_3 x_17 x_18 r_33 (xw F r_3 k) ih F 8 0 _ ⟨h2,h3,h4,h5,h6,h7,rfl,h23,h24⟩ h
   refine .exit (.esq (.elp (.ebk (.nsq (.seq (rg (gm h5 fun h43=>gm h43 fun h2=>g0 (jb true) fun h3=>gq (.nsq (.ret ?_)))))))))
   have hr:=Option.some.inj h
   subst hr
   exact rrB (zn h2) (zn h3) rfl
def vj (F:Nat) (x_1:GR):Option (Int×Bool):=
 (wq F x_1).bind fun r_2=>
 bif (!r_2) then
  some (0,false)
 else
  (vS F x_1).bind fun r_3=>
  xw F r_3 F (-1) 1
theorem t12 (H:H12 D σ F) (x_1:GR) (s:Nat→V) (hs:zl [(0,gV x_1)] s) (h:vj F x_1=some r):Run D σ (R12 r) (.run A12 []) s:=by
 unfold vj at h
 have h0:=hs
 refine .seq (zq (zS ?_))
 refine ez [(0,_),(1,_)] ⟨za h0 rfl mIE,zc rfl⟩ ?_
 rintro s ⟨h0,h1⟩
 refine xz (gV x_1) (zw h0 rfl) h1 rfl (g0 (ji 0) fun h2=>g0 (jb false) fun h3=>gq (.nsq (.seq (.seq (rg (g1 1 (gV x_1) (rf (bG 1 x_1)) fun h10=>?_))))))
 obtain ⟨r_2,E_r_2,h⟩:=bind_some h
 refine zF (m:=0) (al:=false) (r:=Enc.enc (r_2:Bool)) [Enc.enc (x_1:GR)] (ze (v:=gV x_1) h10 rfl (Enc.erase_enc (x_1:GR)) zx) (H.c19 _ _ E_r_2) H.g19 rfl rfl rfl rfl (g1 11 (jb (!r_2)) (rf (jb r_2)) fun h12=>gq (.nsq (zk (t:=(!r_2)) h12 h (fun h=>?_) (fun h=>?_))))
 · refine .seq (rg (g0 (ji 0) fun h2=>g0 (jb false) fun h3=>gq (.nsq (.ret ?_))))
   have hr:=Option.some.inj h
   subst hr
   exact rrB (zn h2) (zn h3) rfl
 refine .skip (.nsq (.seq (zq (zS ?_))))
 refine ez [(1,_),(2,_),(3,_),(4,_)] ⟨za rfl rfl (zf rfl mIE),za h2 rfl mi,za h3 rfl mb,zc rfl⟩ ?_
 rintro s ⟨h1,h2,h3,h4⟩
 refine g1 1 (gV x_1) h1 fun h13=>?_
 obtain ⟨r_3,E_r_3,h⟩:=bind_some h
 refine zF (m:=0) (al:=false) (r:=Enc.enc (r_3:(S1 LI))) [Enc.enc (x_1:GR)] (ze (v:=gV x_1) h13 rfl (Enc.erase_enc (x_1:GR)) zx) (H.c20 _ _ E_r_3) H.g20 rfl rfl rfl rfl (xk h4 (yb (.agg [eL r_3.a]) (zw rfl rfl) (zw rfl rfl) (wj (by first | rfl | simp [V.toks,V.tokss,Enc.toks_enc,ya])) (gz [(2,ji 0),(3,jb false),(4,.ref (.bx 4) 0 [] (.agg [eL r_3.a]))] ⟨zb h2 rfl,zb h3 rfl,zb rfl rfl⟩ ?_)))
 rintro s ⟨h2,h3,h4⟩
 refine .nsq (.seq (rg (g0 (ji (-1)) fun h5=>gq (.nsq (.seq (.seq (rg (g0 (ji 1) fun h6=>gq (.nsq (.block (.loop ?_)))))))))))
 exact zgS H r_3 F (-1) 1 _ ⟨h2,h3,h4,h5,h6⟩ h
end
def e12 (F:Nat):Ent:=ent 12 (fun (x:(GR×Unit))=>vj F x.1) (fun (r:(Int×Bool))=>(.tup [Enc.enc (r.1:Int),Enc.enc (r.2:Bool)])) 0 false []
abbrev C12 (D:List V→Option V) (F:Nat):Prop:=∀ (x0:GR) r,vj F x0=some r→D [Enc.enc x0]=some (.tup [Enc.enc (r.1:Int),Enc.enc (r.2:Bool)])
theorem p12 {F:Nat}:C12 (e12 F).den F:=fun x0 _ h=>zN (x0,()) h
theorem o12 {D:Den} {σ:Sig} {F:Nat} (hF:zy Try.prog D σ) (H:H12 D σ F):(e12 F).Ok Try.prog:=by
 refine yl (f:=12) (show unk 12=12 from rfl) (fun args r h=>?_) ⟨Try.f12,Try.func12,rfl,rfl⟩
 obtain ⟨⟨x0,_⟩,y,rfl,hy,rfl⟩:=zM h
 exact zm hF (by kernel_rfl) Try.func12 rfl c12 (show 1≤Try.f12.ntmps by decide) (t12 H x0 _ rfl hy)
def zpq:AC:=(.cond (.t 15) .skip (.exit 0))
def zoN:AC:=(.cond (.t 23) .skip (.exit 2))
def zsP:AC:=(.cond (.t 35) (.reg [.clr [41,42]] [jv 36 (.fld (.t 5) 1 1),jv 37 (.load .p (.t 36)),jm 38 6,jm 39 7,jv 40 (.bld (.agg [i0,i0]) [(0,0,.t 38),(1,1,.t 39)]),jx 41 (.lit (.agg [i0,i0]) 1 [(0,0,.t 40)]),jx 42 (.app (.ag [.s,.s]) (.t 37) (.t 41)),jv 43 (.fld (.t 5) 1 1),jz (.store .p (.t 43) (.t 42))] [.drp 10,.home 42 10]) .skip)
def zkY:AC:=(.reg [] [jm 24 7,jv 25 (.bin .add (.t 24) (jn 1)),jm 7 25] [])
def zrC:AC:=(.seq (.block 3 (.seq (.reg [] [jv 26 (.load (.ag [.s,.p]) (.t 2)),jm 27 1,jm 28 6,jv 29 (.idx (.t 27) (.t 28) 1),jv 30 (.load .s (.t 29)),jm 31 1,jm 32 7,jv 33 (.idx (.t 31) (.t 32) 1),jv 34 (.load .s (.t 33)),jx 35 (.call (jf 57) [.t 26,.t 30,.t 34])] []) zsP)) zkY)
def Nf:AC:=(.seq (.seq (.reg [] [jm 20 7,jm 21 1,jv 22 (.len (.t 21)),jv 23 (.bin .lss (.t 20) (.t 22))] []) zoN) zrC)
def zpj:AC:=(.block 2 (.loop Nf))
def QU:AC:=(.reg [] [jm 16 6,jv 17 (.bin .add (.t 16) (jn 1)),jm 6 17] [])
def zoQ:AC:=(.seq (.block 1 (.seq (.reg [] [jm 18 6,jv 19 (.bin .add (.t 18) (jn 1)),jm 7 19] []) zpj)) QU)
def Jh:AC:=(.seq (.seq (.reg [] [jm 12 6,jm 13 1,jv 14 (.len (.t 13)),jv 15 (.bin .lss (.t 12) (.t 14))] []) zpq) zoQ)
def Jx:AC:=(.seq (.reg [] [jv 44 (.load (.ag [.s,.p]) (.t 5)),jz (.store (.ag [.s,.p]) (.t 4) (.t 44))] []) .ret)
def zlN:AC:=(.block 0 (.loop Jh))
def zmY:AC:=(.seq (.seq (.reg [] [jv 6 (.mov (jn 0))] []) zlN) Jx)
def znF:AC:=(.seq (.reg [.clr [10,5]] [jm 8 1,jv 9 (.len (.t 8)),jx 10 (.lit (.agg [i0,i0]) 0 []),jv 11 (.bld (.agg [i0,.sl .nl (.ag [.s,.s]) 0 []]) [(0,0,.t 9),(1,1,.t 10)]),jx 5 (.alloc (.agg [i0,.sl .nl (.ag [.s,.s]) 0 []])),jz (.store (.ag [.s,.p]) (.t 5) (.t 11))] []) zmY)
def A38:AC:=(.seq (.reg [.clr [2,4]] [jx 2 (.box (.t 0)),jx 4 (.alloc (.agg [i0,.sl .nl (.ag [.s,.s]) 0 []]))] []) znF)
def ztc:List An:=[⟨0,[.clr [2,4]],[],[],[]⟩,⟨1,[.clr [10,5]],[],[],[]⟩,⟨9,[.clr [41,42]],[],[],[.drp 10,.home 42 10]⟩]
theorem c38:cC Try.prog Try.f38.ntmps ztc (Try.f38.body.getD .skip)=some A38:=by kernel_rfl
structure H38 (D:Den) (σ:Sig) (F:Nat):Prop where
 c57:C57 (D 57) F
 g57:σ 57=some (0,false)
abbrev R38 (r:GR):(Nat→V)→Prop:=RR Try.prog [.cell 4 26] 0 false (Enc.enc (r:GR))
section
variable {D:Den} {σ:Sig} {F:Nat} {r:GR}
def uL (F:Nat) (x_2:LI) (x_1:GR) (x_24:Int) (x_52:Int) (c1:LP→Int→Option GR) (c4:LP→Int→Option GR) (x_63:LP):Option GR:=
 c4 x_63 (w64 (x_52 + 1))
theorem zbC (H:H38 D σ F) (x_2:LI) (x_1:GR) (x_24:Int) (x_52:Int) (c1:LP→Int→Option GR) (Hc1:∀ (x_23:LP) (x_24:Int) (s:Nat→V),zl [(1,eL x_2),(2,bG 2 x_1),(4,bZ 4),(5,.ref (.bx 5) 0 [] (.agg [ji (x_2.length:Int),zi (.at 10 []) (.of (x_23:LP))])),(6,ji x_24)] s→c1 x_23 x_24=some r→Run D σ (R38 r) (.run Jh [.lp Jh,.bk 0,.sq Jx]) s) (c4:LP→Int→Option GR) (Hc4:∀ (x_51:LP) (x_52:Int) (s:Nat→V),zl [(1,eL x_2),(2,bG 2 x_1),(4,bZ 4),(5,.ref (.bx 5) 0 [] (.agg [ji (x_2.length:Int),zi (.at 10 []) (.of (x_51:LP))])),(6,ji x_24),(7,ji x_52)] s→c4 x_51 x_52=some r→Run D σ (R38 r) (.run Nf [.lp Nf,.bk 2,.bk 1,.sq QU,.lp Jh,.bk 0,.sq Jx]) s) (x_63:LP) (s:Nat→V) (hs:zl [(1,eL x_2),(2,bG 2 x_1),(4,bZ 4),(5,.ref (.bx 5) 0 [] (.agg [ji (x_2.length:Int),zi (.at 10 []) (.of (x_63:LP))])),(6,ji x_24),(7,ji x_52)] s) (h:uL F x_2 x_1 x_24 x_52 c1 c4 x_63=some r):Run D σ (R38 r) (.nrm [.bk 3,.sq zkY,.lp Nf,.bk 2,.bk 1,.sq QU,.lp Jh,.bk 0,.sq Jx]) s:=by
 unfold uL at h
 obtain ⟨h1,h2,h4,h5,h6,h7⟩:=hs
 refine .nbk (.nsq (rg (gm h7 fun h24=>g1 24 (ji (w64 (x_52 + 1))) h24 fun h25=>gm h25 fun h7=>gq (.nlp ?_))))
 exact Hc4 x_63 (w64 (x_52 + 1)) _ ⟨h1,h2,h4,h5,h6,h7⟩ h
def xR (F:Nat) (x_2:LI) (x_1:GR) (x_24:Int) (c1:LP→Int→Option GR):Nat→LP→Int→Option GR
 | 0,_,_=>none
 | k + 1,x_51,x_52=>
   bif decide (x_52 < (x_2.length:Int)) then
    (idx x_2 x_24).bind fun e_59=>
    (idx x_2 x_52).bind fun e_60=>
    (uo F x_1 e_59 e_60).bind fun r_61=>
    bif r_61 then
     (wS x_51 [(x_24,x_52)]).bind fun ap_64=>
     uL F x_2 x_1 x_24 x_52 c1 (xR F x_2 x_1 x_24 c1 k) ap_64
    else
     uL F x_2 x_1 x_24 x_52 c1 (xR F x_2 x_1 x_24 c1 k) x_51
   else
    c1 x_51 (w64 (x_24 + 1))
theorem zip (H:H38 D σ F) (x_2:LI) (x_1:GR) (x_24:Int) (c1:LP→Int→Option GR) (Hc1:∀ (x_23:LP) (x_24:Int) (s:Nat→V),zl [(1,eL x_2),(2,bG 2 x_1),(4,bZ 4),(5,.ref (.bx 5) 0 [] (.agg [ji (x_2.length:Int),zi (.at 10 []) (.of (x_23:LP))])),(6,ji x_24)] s→c1 x_23 x_24=some r→Run D σ (R38 r) (.run Jh [.lp Jh,.bk 0,.sq Jx]) s):∀ (k:Nat) (x_51:LP) (x_52:Int) (s:Nat→V),zl [(1,eL x_2),(2,bG 2 x_1),(4,bZ 4),(5,.ref (.bx 5) 0 [] (.agg [ji (x_2.length:Int),zi (.at 10 []) (.of (x_51:LP))])),(6,ji x_24),(7,ji x_52)] s→xR F x_2 x_1 x_24 c1 k x_51 x_52=some r→Run D σ (R38 r) (.run Nf [.lp Nf,.bk 2,.bk 1,.sq QU,.lp Jh,.bk 0,.sq Jx]) s:=by
 intro k
 induction k with
 | zero=>intro x_51 x_52 s _ h;exact nm h
 | succ k ih=>
   intro x_51 x_52 s hs h
   rw [xR] at h
   obtain ⟨h1,h2,h4,h5,h6,h7⟩:=hs
   refine .seq (.seq (rg (gm h7 fun h20=>gm h1 fun h21=>gv (ji (x_2.length:Int)) (yu (xs:=x_2) h21) fun h22=>g2 20 22 (jb (decide (x_52 < (x_2.length:Int)))) h20 h22 fun h23=>gq (.nsq (zk (t:=decide (x_52 < (x_2.length:Int))) h23 h (fun h=>?_) (fun h=>?_))))))
   · refine .skip (.nsq (.seq (.block (.seq (rg (g1 2 (gV x_1) h2 fun h26=>gm h1 fun h27=>gm h6 fun h28=>?_))))))
     obtain ⟨e_59,E_e_59,h⟩:=bind_some h
     refine gv (.ref .sh 0 [] (ji e_59)) (yz (t:=.sh) (lo:=0) (xs:=x_2) h27 h28 E_e_59 rfl rfl) fun h29=>g1 29 (ji e_59) h29 fun h30=>gm h1 fun h31=>gm h7 fun h32=>?_
     obtain ⟨e_60,E_e_60,h⟩:=bind_some h
     refine gv (.ref .sh 0 [] (ji e_60)) (yz (t:=.sh) (lo:=0) (xs:=x_2) h31 h32 E_e_60 rfl rfl) fun h33=>g1 33 (ji e_60) h33 fun h34=>?_
     obtain ⟨r_61,E_r_61,h⟩:=bind_some h
     refine zF (m:=0) (al:=false) (r:=Enc.enc (r_61:Bool)) [Enc.enc (x_1:GR),Enc.enc (e_59:Int),Enc.enc (e_60:Int)] (ze (v:=gV x_1) h26 rfl (Enc.erase_enc (x_1:GR)) (ze (v:=ji e_59) h30 rfl rfl (ze (v:=ji e_60) h34 rfl rfl zx))) (H.c57 _ _ _ _ E_r_61) H.g57 rfl rfl rfl rfl (gq (.nsq (zk (t:=r_61) rfl h (fun h=>?_) (fun h=>?_))))
     · refine zq (zS ?_)
       refine ez [(1,_),(2,_),(4,_),(5,_),(6,_),(7,_),(41,_),(42,_)] ⟨za h1 rfl me,za h2 rfl (zf rfl mIE),za h4 rfl (zf rfl (mIx rfl)),za h5 rfl (zf rfl (zA (zd mi (zd (zj (r:=10) (p:=[]) rfl rfl) zh)))),za h6 rfl mi,za h7 rfl mi,zc rfl,zc rfl⟩ ?_
       rintro s ⟨h1,h2,h4,h5,h6,h7,h41,h42⟩
       refine g1 5 (.ref (.bx 5) 0 [1] (zi (.at 10 []) (.of (x_51:LP)))) h5 fun h36=>g1 36 (zi (.at 10 []) (.of (x_51:LP))) h36 fun h37=>gm h6 fun h38=>gm h7 fun h39=>g2 38 39 (.agg [ji x_24,ji x_52]) h38 h39 fun h40=>xT [(40,.agg [ji x_24,ji x_52])] [Enc.enc ((x_24,x_52):(Int×Int))] h40 rfl rfl h41 ?_
       obtain ⟨ap_64,E_ap_64,h⟩:=bind_some h
       refine Xz (q:=10) (p:=[]) (o:=.of (x_51:LP)) (ys:=([(x_24,x_52)]:LP)) (t2:=.at 41 []) (lo2:=0) h37 rfl rfl h42 (ZJ (o:=.of (x_51:LP)) E_ap_64 trivial) (fun s_72 ha_72=>g1 5 (.ref (.bx 5) 0 [1] (kdO ((.of x_51):NL (Int×Int)))) (show s_72 5=(.ref (.bx 5) 0 [] (.agg [ji (x_2.length:Int),kdO ((.of x_51):NL (Int×Int))])) from uu ha_72 h5 (zf rfl (zA (zd mi (zd YL zh)))) (by intro h;first | (cases h;done) | (subst h;rfl))) fun h43=>yb (zi (.at 42 []) (.of (ap_64:LP))) (zw h43 rfl) (zw rfl rfl) ⟨by decide,by decide,rfl,rfl,JO,YQ rfl rfl⟩ (yQ ?_))
       refine W9 (x:=10) (fun s_73 hx_73 hd_73=>yC (r:=42) (x:=10) (v:=_) (by exact hx_73) rfl (fun s_74 hg_74=>?_))
       refine ez [(1,eL x_2),(2,bG 2 x_1),(4,bZ 4),(5,.ref (.bx 5) 0 [] (.agg [ji (x_2.length:Int),zi (.at 10 []) (.of (ap_64:LP))])),(6,ji x_24),(7,ji x_52)] ⟨hg_74 1 _ _ (show s_73 1=(eL x_2) from (hd_73 1 (by decide)).trans (zb (show s_72 1=(eL x_2) from zJ ha_72 h1 me) uE)) me,hg_74 2 _ _ (show s_73 2=(bG 2 x_1) from (hd_73 2 (by decide)).trans (zb (show s_72 2=(bG 2 x_1) from zJ ha_72 h2 (zf rfl mIE)) (zC rfl rfl uIE))) (zf rfl mIE),hg_74 4 _ _ (show s_73 4=(bZ 4) from (hd_73 4 (by decide)).trans (zb (show s_72 4=(bZ 4) from zJ ha_72 h4 (zf rfl (mIx rfl))) (zC rfl rfl (yr (zp rfl (zp rfl rfl)))))) (zf rfl (mIx rfl)),hg_74 5 _ (.ref (.bx 5) 0 [] (.agg [ji (x_2.length:Int),zi (.at 10 []) (.of (ap_64:LP))])) (show s_73 5=(.ref (.bx 5) 0 [] (.agg [ji (x_2.length:Int),zi (.at 42 []) (.of (ap_64:LP))])) from (hd_73 5 (by decide)).trans (zb (show s_72 5=(.ref (.bx 5) 0 [] (.agg [ji (x_2.length:Int),kdO ((.of x_51):NL (Int×Int))])) from uu ha_72 h5 (zf rfl (zA (zd mi (zd YL zh)))) (by intro h;first | (cases h;done) | (subst h;rfl))) (XY (zp rfl (zp J7 rfl))))) (zf rfl (zA (zd mi (zd (zj (r:=42) (p:=[]) rfl rfl) zh)))),hg_74 6 _ _ (show s_73 6=(ji x_24) from (hd_73 6 (by decide)).trans (zb (show s_72 6=(ji x_24) from zJ ha_72 h6 mi) rfl)) mi,hg_74 7 _ _ (show s_73 7=(ji x_52) from (hd_73 7 (by decide)).trans (zb (show s_72 7=(ji x_52) from zJ ha_72 h7 mi) rfl)) mi⟩ ?_
       rintro s ⟨h1,h2,h4,h5,h6,h7⟩
       exact zbC H x_2 x_1 x_24 x_52 c1 Hc1 (xR F x_2 x_1 x_24 c1 k) ih ap_64 _ ⟨h1,h2,h4,h5,h6,h7⟩ h
     refine .skip ?_
     exact zbC H x_2 x_1 x_24 x_52 c1 Hc1 (xR F x_2 x_1 x_24 c1 k) ih x_51 _ ⟨h1,h2,h4,h5,h6,h7⟩ h
   refine .exit (.esq (.elp (.ebk (.nbk (.nsq (rg (gm h6 fun h16=>g1 16 (ji (w64 (x_24 + 1))) h16 fun h17=>gm h17 fun h6=>gq (.nlp ?_))))))))
   exact Hc1 x_51 (w64 (x_24 + 1)) _ ⟨h1,h2,h4,h5,h6⟩ h
def xW (F:Nat) (x_2:LI) (x_1:GR) :Nat→LP→Int→Option GR
 | 0,_,_=>none
 | k + 1,x_23,x_24=>
   bif decide (x_24 < (x_2.length:Int)) then
    xR F x_2 x_1 x_24 (xW F x_2 x_1 k) F x_23 (w64 (x_24 + 1))
   else
    some ((x_2.length:Int),x_23)
theorem zgT (H:H38 D σ F) (x_2:LI) (x_1:GR) :∀ (k:Nat) (x_23:LP) (x_24:Int) (s:Nat→V),zl [(1,eL x_2),(2,bG 2 x_1),(4,bZ 4),(5,.ref (.bx 5) 0 [] (.agg [ji (x_2.length:Int),zi (.at 10 []) (.of (x_23:LP))])),(6,ji x_24)] s→xW F x_2 x_1 k x_23 x_24=some r→Run D σ (R38 r) (.run Jh [.lp Jh,.bk 0,.sq Jx]) s:=by
 intro k
 induction k with
 | zero=>intro x_23 x_24 s _ h;exact nm h
 | succ k ih=>
   intro x_23 x_24 s hs h
   rw [xW] at h
   obtain ⟨h1,h2,h4,h5,h6⟩:=hs
   refine .seq (.seq (rg (gm h6 fun h12=>gm h1 fun h13=>gv (ji (x_2.length:Int)) (yu (xs:=x_2) h13) fun h14=>g2 12 14 (jb (decide (x_24 < (x_2.length:Int)))) h12 h14 fun h15=>gq (.nsq (zk (t:=decide (x_24 < (x_2.length:Int))) h15 h (fun h=>?_) (fun h=>?_))))))
   · refine .skip (.nsq (.seq (.block (.seq (rg (gm h6 fun h18=>g1 18 (ji (w64 (x_24 + 1))) h18 fun h19=>gm h19 fun h7=>gq (.nsq (.block (.loop ?_)))))))))
     exact zip H x_2 x_1 x_24 (xW F x_2 x_1 k) ih F x_23 (w64 (x_24 + 1)) _ ⟨h1,h2,h4,h5,h6,h7⟩ h
   refine .exit (.esq (.elp (.ebk (.nsq (.seq (rg (g1 5 (.agg [ji (x_2.length:Int),zi (.at 10 []) (.of (x_23:LP))]) h5 fun h44=>yb (.agg [ji (x_2.length:Int),zi (.at 10 []) (.of (x_23:LP))]) (zw h4 rfl) (zw h44 rfl) (wj (by first | rfl | simp [V.toks,V.tokss,Enc.toks_enc,ya])) (gz [(4,.ref (.bx 4) 0 [] (.agg [ji (x_2.length:Int),zi (.at 10 []) (.of (x_23:LP))]))] (zb h4 rfl) ?_))))))))
   rintro s h4
   refine .nsq (.ret ?_)
   have hr:=Option.some.inj h
   subst hr
   exact rrA (wN h4 (by kernel_rfl)) (vh (Q7 (xe (vD (x:=((x_2.length:Int):Int))) (xe (vA (o:=.of x_23)) uj))) (XB (x9 rfl (x9 (xB rfl) u6))))
def uC (F:Nat) (x_1:GR) (x_2:LI):Option GR:=
 xW F x_2 x_1 F [] 0
theorem t38 (H:H38 D σ F) (x_1:GR) (x_2:LI) (s:Nat→V) (hs:zl [(0,gV x_1),(1,eL x_2)] s) (h:uC F x_1 x_2=some r):Run D σ (R38 r) (.run A38 []) s:=by
 unfold uC at h
 obtain ⟨h0,h1⟩:=hs
 refine .seq (zq (zS ?_))
 refine ez [(0,_),(1,_),(2,_),(4,_)] ⟨za h0 rfl mIE,za h1 rfl me,zc rfl,zc rfl⟩ ?_
 rintro s ⟨h0,h1,h2,h4⟩
 refine xz (gV x_1) (zw h0 rfl) h2 rfl (xk h4 (gq (.nsq (.seq (zq (zS ?_))))))
 refine ez [(1,_),(2,_),(4,_),(5,_),(10,_)] ⟨za h1 rfl me,za rfl rfl (zf rfl mIE),za rfl rfl (zf rfl (mIx rfl)),zc rfl,zc rfl⟩ ?_
 rintro s ⟨h1,h2,h4,h5,h10⟩
 refine gm h1 fun h8=>gv (ji (x_2.length:Int)) (yu (xs:=x_2) h8) fun h9=>xT [] [] trivial rfl rfl h10 (g2 9 10 (.agg [ji (x_2.length:Int),zi (.at 10 []) (.of ([]:LP))]) h9 (rf (zi (.at 10 []) (.of ([]:LP)))) fun h11=>xk h5 (yb (.agg [ji (x_2.length:Int),zi (.at 10 []) (.of ([]:LP))]) (zw rfl rfl) (zw h11 rfl) (wj (by first | rfl | simp [V.toks,V.tokss,Enc.toks_enc,ya])) ?_))
 refine gz [(1,eL x_2),(2,bG 2 x_1),(4,bZ 4),(5,.ref (.bx 5) 0 [] (.agg [ji (x_2.length:Int),zi (.at 10 []) (.of ([]:LP))]))] ⟨zb h1 uE,zb h2 (zC rfl rfl uIE),zb h4 (zC rfl rfl (yr (zp rfl (zp rfl rfl)))),zb rfl rfl⟩ ?_
 rintro s ⟨h1,h2,h4,h5⟩
 refine .nsq (.seq (.seq (rg (g0 (ji 0) fun h6=>gq (.nsq (.block (.loop ?_)))))))
 exact zgT H x_2 x_1 F [] 0 _ ⟨h1,h2,h4,h5,h6⟩ h
end
def e38 (F:Nat):Ent:=ent 38 (fun (x:(GR×LI×Unit))=>uC F x.1 x.2.1) (fun (r:GR)=>(Enc.enc (r:GR))) 0 false []
abbrev C38 (D:List V→Option V) (F:Nat):Prop:=∀ (x0:GR) (x1:LI) r,uC F x0 x1=some r→D [Enc.enc x0,Enc.enc x1]=some (Enc.enc (r:GR))
theorem p38 {F:Nat}:C38 (e38 F).den F:=fun x0 x1 _ h=>zN (x0,x1,()) h
theorem o38 {D:Den} {σ:Sig} {F:Nat} (hF:zy Try.prog D σ) (H:H38 D σ F):(e38 F).Ok Try.prog:=by
 refine yl (f:=38) (show unk 38=38 from rfl) (fun args r h=>?_) ⟨Try.f38,Try.func38,rfl,rfl⟩
 obtain ⟨⟨x0,x1,_⟩,y,rfl,hy,rfl⟩:=zM h
 exact zm hF (by kernel_rfl) Try.func38 rfl c38 (show 2≤Try.f38.ntmps by decide) (t38 H x0 x1 _ ⟨rfl,rfl⟩ hy)
def zo0:AC:=(.cond (.t 17) .skip (.exit 0))
def zoM:AC:=(.cond (.t 26) (.reg [.clr [32,33]] [jm 27 7,jm 28 8,jm 29 9,jv 30 (.idx (.t 28) (.t 29) 1),jv 31 (.load .s (.t 30)),jx 32 (.lit i0 1 [(0,0,.t 31)]),jx 33 (.app .s (.t 27) (.t 32)),jm 7 33] [.home 33 7]) .skip)
def zkN:AC:=(.reg [] [jm 18 9,jv 19 (.bin .add (.t 18) (jn 1)),jm 9 19] [])
def zoj:AC:=(.seq (.block 1 (.seq (.reg [] [jm 20 1,jm 21 8,jm 22 9,jv 23 (.idx (.t 21) (.t 22) 1),jv 24 (.load .s (.t 23)),jx 25 (.call (jf 52) [.t 20,.t 24]),jv 26 (.un .not (.t 25))] []) zoM)) zkN)
def M6:AC:=(.seq (.seq (.reg [] [jm 14 9,jm 15 8,jv 16 (.len (.t 15)),jv 17 (.bin .lss (.t 14) (.t 16))] []) zo0) zoj)
def zfn:AC:=(.seq (.reg [] [jm 34 7,jm 6 34] [.home 7 6]) .ret)
def zmS:AC:=(.block 0 (.loop M6))
def zs6:AC:=(.seq (.seq (.reg [] [jv 9 (.mov (jn 0))] []) zmS) zfn)
def zoJ:AC:=(.seq (.reg [] [jv 11 (.load (.ag [.s,.p]) (.t 3)),jm 12 2,jx 13 (.call (jf 60) [.t 11,.t 12]),jm 8 13] []) zs6)
def zrc:AC:=(.seq (.reg [.clr [10]] [jx 10 (.lit i0 0 []),jm 7 10] [.home 10 7]) zoJ)
def A37:AC:=(.seq (.reg [.clr [3]] [jx 3 (.box (.t 0)),jv 6 (.mov (.k (.sl .nl .s 0 [])))] []) zrc)
def zuc:List An:=[⟨0,[.clr [3]],[],[],[]⟩,⟨1,[.clr [10]],[],[],[.home 10 7]⟩,⟨7,[.clr [32,33]],[],[],[.home 33 7]⟩,⟨8,[],[],[],[.home 7 6]⟩]
theorem c37:cC Try.prog Try.f37.ntmps zuc (Try.f37.body.getD .skip)=some A37:=by kernel_rfl
structure H37 (D:Den) (σ:Sig) (F:Nat):Prop where
 c60:C60 (D 60) F
 g60:σ 60=some (0,false)
 c52:C52 (D 52) F
 g52:σ 52=some (0,false)
abbrev R37 (r:LI):(Nat→V)→Prop:=RR Try.prog [.tmp 6] 0 false (eL r)
section
variable {D:Den} {σ:Sig} {F:Nat} {r:LI}
def Yc (F:Nat) (x_2:LI) (r_4:LI) (x_13:Int) (c1:LI→Int→Option LI) (x_25:LI):Option LI:=
 c1 x_25 (w64 (x_13 + 1))
theorem zcm (H:H37 D σ F) (x_2:LI) (r_4:LI) (x_13:Int) (c1:LI→Int→Option LI) (Hc1:∀ (x_12:LI) (x_13:Int) (s:Nat→V),zl [(1,eL x_2),(6,nI),(7,oI 7 [] (.of x_12)),(8,eL r_4),(9,ji x_13)] s→c1 x_12 x_13=some r→Run D σ (R37 r) (.run M6 [.lp M6,.bk 0,.sq zfn]) s) (x_25:LI) (s:Nat→V) (hs:zl [(1,eL x_2),(6,nI),(7,oI 7 [] (.of x_25)),(8,eL r_4),(9,ji x_13)] s) (h:Yc F x_2 r_4 x_13 c1 x_25=some r):Run D σ (R37 r) (.nrm [.bk 1,.sq zkN,.lp M6,.bk 0,.sq zfn]) s:=by
 unfold Yc at h
 obtain ⟨h1,h6,h7,h8,h9⟩:=hs
 refine .nbk (.nsq (rg (gm h9 fun h18=>g1 18 (ji (w64 (x_13 + 1))) h18 fun h19=>gm h19 fun h9=>gq (.nlp ?_))))
 exact Hc1 x_25 (w64 (x_13 + 1)) _ ⟨h1,h6,h7,h8,h9⟩ h
def wm (F:Nat) (x_2:LI) (r_4:LI) :Nat→LI→Int→Option LI
 | 0,_,_=>none
 | k + 1,x_12,x_13=>
   bif decide (x_13 < (r_4.length:Int)) then
    (idx r_4 x_13).bind fun e_21=>
    (wC F x_2 e_21).bind fun r_22=>
    bif (!r_22) then
     (idx r_4 x_13).bind fun e_26=>
     (wS x_12 [e_26]).bind fun ap_27=>
     Yc F x_2 r_4 x_13 (wm F x_2 r_4 k) ap_27
    else
     Yc F x_2 r_4 x_13 (wm F x_2 r_4 k) x_12
   else
    some x_12
theorem ziD (H:H37 D σ F) (x_2:LI) (r_4:LI) :∀ (k:Nat) (x_12:LI) (x_13:Int) (s:Nat→V),zl [(1,eL x_2),(6,nI),(7,oI 7 [] (.of x_12)),(8,eL r_4),(9,ji x_13)] s→wm F x_2 r_4 k x_12 x_13=some r→Run D σ (R37 r) (.run M6 [.lp M6,.bk 0,.sq zfn]) s:=by
 intro k
 induction k with
 | zero=>intro x_12 x_13 s _ h;exact nm h
 | succ k ih=>
   intro x_12 x_13 s hs h
   rw [wm] at h
   obtain ⟨h1,h6,h7,h8,h9⟩:=hs
   refine .seq (.seq (rg (gm h9 fun h14=>gm h8 fun h15=>gv (ji (r_4.length:Int)) (yu (xs:=r_4) h15) fun h16=>g2 14 16 (jb (decide (x_13 < (r_4.length:Int)))) h14 h16 fun h17=>gq (.nsq (zk (t:=decide (x_13 < (r_4.length:Int))) h17 h (fun h=>?_) (fun h=>?_))))))
   · refine .skip (.nsq (.seq (.block (.seq (rg (gm h1 fun h20=>gm h8 fun h21=>gm h9 fun h22=>?_))))))
     obtain ⟨e_21,E_e_21,h⟩:=bind_some h
     refine gv (.ref .sh 0 [] (ji e_21)) (yz (t:=.sh) (lo:=0) (xs:=r_4) h21 h22 E_e_21 rfl rfl) fun h23=>g1 23 (ji e_21) h23 fun h24=>?_
     obtain ⟨r_22,E_r_22,h⟩:=bind_some h
     refine zF (m:=0) (al:=false) (r:=Enc.enc (r_22:Bool)) [eL x_2,Enc.enc (e_21:Int)] (ze (v:=eL x_2) h20 rfl (Enc.erase_enc (x_2:LI)) (ze (v:=ji e_21) h24 rfl rfl zx)) (H.c52 _ _ _ E_r_22) H.g52 rfl rfl rfl rfl (g1 25 (jb (!r_22)) (rf (jb r_22)) fun h26=>gq (.nsq (zk (t:=(!r_22)) h26 h (fun h=>?_) (fun h=>?_))))
     · refine zq (zS ?_)
       refine ez [(1,_),(6,_),(7,_),(8,_),(9,_),(32,_),(33,_)] ⟨za h1 rfl me,za h6 rfl rfl,za h7 rfl (zj (r:=7) (p:=[]) rfl rfl),za h8 rfl me,za h9 rfl mi,zc rfl,zc rfl⟩ ?_
       rintro s ⟨h1,h6,h7,h8,h9,h32,h33⟩
       refine gm h7 fun h27=>gm h8 fun h28=>gm h9 fun h29=>?_
       obtain ⟨e_26,E_e_26,h⟩:=bind_some h
       refine gv (.ref .sh 0 [] (ji e_26)) (yz (t:=.sh) (lo:=0) (xs:=r_4) h28 h29 E_e_26 rfl rfl) fun h30=>g1 30 (ji e_26) h30 fun h31=>xT [(31,ji e_26)] [Enc.enc (e_26:Int)] h31 rfl rfl h32 ?_
       obtain ⟨ap_27,E_ap_27,h⟩:=bind_some h
       refine Xz (q:=7) (p:=[]) (o:=.of (x_12:LI)) (ys:=([e_26]:LI)) (t2:=.at 32 []) (lo2:=0) h27 rfl rfl h33 (ZJ (o:=.of (x_12:LI)) E_ap_27 trivial) (fun s_20 ha_20=>gm (rf (oI 33 [] (.of ap_27))) fun h7=>yQ (yC (r:=33) (x:=7) (v:=_) h7 rfl (fun s_21 hg_21=>?_)))
       refine ez [(1,eL x_2),(6,nI),(7,oI 7 [] (.of ap_27)),(8,eL r_4),(9,ji x_13)] ⟨hg_21 1 _ _ (show s_20 1=(eL x_2) from zJ ha_20 h1 me) me,hg_21 6 _ nI (show s_20 6=nI from zJ ha_20 h6 rfl) rfl,hg_21 7 _ _ h7 (zj (r:=33) (p:=[]) rfl rfl),hg_21 8 _ _ (show s_20 8=(eL r_4) from zJ ha_20 h8 me) me,hg_21 9 _ _ (show s_20 9=(ji x_13) from zJ ha_20 h9 mi) mi⟩ ?_
       rintro s ⟨h1,h6,h7,h8,h9⟩
       exact zcm H x_2 r_4 x_13 (wm F x_2 r_4 k) ih ap_27 _ ⟨h1,h6,h7,h8,h9⟩ h
     refine .skip ?_
     exact zcm H x_2 r_4 x_13 (wm F x_2 r_4 k) ih x_12 _ ⟨h1,h6,h7,h8,h9⟩ h
   refine .exit (.esq (.elp (.ebk (.nsq (.seq (rg (gm h7 fun h34=>gm h34 fun h6=>yQ (yC (r:=7) (x:=6) (v:=_) h6 rfl (fun s_22 hg_22=>?_)))))))))
   refine ez [(6,oI 6 [] (.of x_12))] (hg_22 6 _ _ h6 (zj (r:=7) (p:=[]) rfl rfl)) ?_
   rintro s h6
   refine .nsq (.ret ?_)
   have hr:=Option.some.inj h
   subst hr
   exact rrA (zn h6) (vh (vA (o:=.of x_12)) (xB rfl))
def Yr (F:Nat) (x_1:GR) (x_2:LI) (x_3:Int):Option LI:=
 (xU F x_1 x_3).bind fun r_4=>
 wm F x_2 r_4 F [] 0
theorem t37 (H:H37 D σ F) (x_1:GR) (x_2:LI) (x_3:Int) (s:Nat→V) (hs:zl [(0,gV x_1),(1,eL x_2),(2,ji x_3)] s) (h:Yr F x_1 x_2 x_3=some r):Run D σ (R37 r) (.run A37 []) s:=by
 unfold Yr at h
 obtain ⟨h0,h1,h2⟩:=hs
 refine .seq (zq (zS ?_))
 refine ez [(0,_),(1,_),(2,_),(3,_)] ⟨za h0 rfl mIE,za h1 rfl me,za h2 rfl mi,zc rfl⟩ ?_
 rintro s ⟨h0,h1,h2,h3⟩
 refine xz (gV x_1) (zw h0 rfl) h3 rfl (g0 nI fun h6=>gq (.nsq (.seq (zq (zS ?_)))))
 refine ez [(1,_),(2,_),(3,_),(6,_),(10,_)] ⟨za h1 rfl me,za h2 rfl mi,za rfl rfl (zf rfl mIE),za h6 rfl rfl,zc rfl⟩ ?_
 rintro s ⟨h1,h2,h3,h6,h10⟩
 refine xT [] [] trivial rfl rfl h10 (gm (rf (oI 10 [] (.of []))) fun h7=>yQ (yC (r:=10) (x:=7) (v:=_) h7 rfl (fun s_3 hg_3=>?_)))
 refine ez [(1,eL x_2),(2,ji x_3),(3,bG 3 x_1),(6,nI),(7,oI 7 [] (.of []))] ⟨hg_3 1 _ _ h1 me,hg_3 2 _ _ h2 mi,hg_3 3 _ _ h3 (zf rfl mIE),hg_3 6 _ _ h6 rfl,hg_3 7 _ _ h7 (zj (r:=10) (p:=[]) rfl rfl)⟩ ?_
 rintro s ⟨h1,h2,h3,h6,h7⟩
 refine .nsq (.seq (rg (g1 3 (gV x_1) h3 fun h11=>gm h2 fun h12=>?_)))
 obtain ⟨r_4,E_r_4,h⟩:=bind_some h
 refine zF (m:=0) (al:=false) (r:=eL r_4) [Enc.enc (x_1:GR),Enc.enc (x_3:Int)] (ze (v:=gV x_1) h11 rfl (Enc.erase_enc (x_1:GR)) (ze (v:=ji x_3) h12 rfl rfl zx)) (H.c60 _ _ _ E_r_4) H.g60 rfl rfl rfl rfl (gm (rf (eL r_4)) fun h8=>gq (.nsq (.seq (.seq (rg (g0 (ji 0) fun h9=>gq (.nsq (.block (.loop ?_)))))))))
 exact ziD H x_2 r_4 F [] 0 _ ⟨h1,h6,h7,h8,h9⟩ h
end
def e37 (F:Nat):Ent:=ent 37 (fun (x:(GR×LI×Int×Unit))=>Yr F x.1 x.2.1 x.2.2.1) (fun (r:LI)=>(eL r)) 0 false []
abbrev C37 (D:List V→Option V) (F:Nat):Prop:=∀ (x0:GR) (x1:LI) (x2:Int) r,Yr F x0 x1 x2=some r→D [Enc.enc x0,Enc.enc x1,Enc.enc x2]=some (eL r)
theorem p37 {F:Nat}:C37 (e37 F).den F:=fun x0 x1 x2 _ h=>zN (x0,x1,x2,()) h
theorem o37 {D:Den} {σ:Sig} {F:Nat} (hF:zy Try.prog D σ) (H:H37 D σ F):(e37 F).Ok Try.prog:=by
 refine yl (f:=37) (show unk 37=37 from rfl) (fun args r h=>?_) ⟨Try.f37,Try.func37,rfl,rfl⟩
 obtain ⟨⟨x0,x1,x2,_⟩,y,rfl,hy,rfl⟩:=zM h
 exact zm hF (by kernel_rfl) Try.func37 rfl c37 (show 3≤Try.f37.ntmps by decide) (t37 H x0 x1 x2 _ ⟨rfl,rfl,rfl⟩ hy)
end Go.Zq
