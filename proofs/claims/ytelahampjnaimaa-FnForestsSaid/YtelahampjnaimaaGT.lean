/- The table of the functions' contracts. No further condition. -/
import Derived.Test.YtelahampjnaimaaK4
import Derived.Test.YtelahampjnaimaaProg
import Derived.Test.YtelahampjnaimaaChecked
import Derived.KernelRfl
import Derived.Test.YtelahampjnaimaaG5
set_option linter.unusedVariables false
set_option linter.unusedSimpArgs false
namespace Go.Zq
open Go.Proofs
variable {D:Den} {σ:Sig} {F:Nat}
def zex (F:Nat):List Ent:=e4 F :: []
theorem ziD (F:Nat):zG Try.prog (tD (zex F)) (tS (zex F)):=zx (o4 (zds) ⟨⟩) (zds) (.inl rfl)
def zeC (F:Nat):List Ent:=e49 F :: zex F
theorem zjV (F:Nat):zG Try.prog (tD (zeC F)) (tS (zeC F)):=zx (o49 (ziD F) ⟨⟩) (ziD F) (.inl rfl)
def zfk (F:Nat):List Ent:=e24 F :: zeC F
theorem zkt (F:Nat):zG Try.prog (tD (zfk F)) (tS (zfk F)):=zx (o24 (zjV F) ⟨p49,rfl⟩) (zjV F) (.inl rfl)
def zeB (F:Nat):List Ent:=e39 F :: zfk F
theorem zjo (F:Nat):zG Try.prog (tD (zeB F)) (tS (zeB F)):=zx (o39 (zkt F) ⟨p24,rfl⟩) (zkt F) (.inl rfl)
def ze8 (F:Nat):List Ent:=e22 F :: zeB F
theorem ziN (F:Nat):zG Try.prog (tD (ze8 F)) (tS (ze8 F)):=zx (o22 (zjo F) ⟨p24,rfl⟩) (zjo F) (.inl rfl)
def zfb (F:Nat):List Ent:=e48 F :: ze8 F
theorem zjb (F:Nat):zG Try.prog (tD (zfb F)) (tS (zfb F)):=zx (o48 (ziN F) ⟨⟩) (ziN F) (.inl rfl)
def zeL (F:Nat):List Ent:=znn F :: zfb F
theorem zk1 (F:Nat):zG Try.prog (tD (zeL F)) (tS (zeL F)):=zx (zxZ (zjb F) ⟨⟩) (zjb F) (.inl rfl)
def zep (F:Nat):List Ent:=e52 F :: zeL F
theorem zkp (F:Nat):zG Try.prog (tD (zep F)) (tS (zep F)):=zx (o52 (zk1 F) ⟨⟩) (zk1 F) (.inl rfl)
def zeQ (F:Nat):List Ent:=zpE F :: zep F
theorem zj8 (F:Nat):zG Try.prog (tD (zeQ F)) (tS (zeQ F)):=zx (zxk (zkp F) ⟨p52,rfl⟩) (zkp F) (.inl rfl)
def zeK (F:Nat):List Ent:=zpk F :: zeQ F
theorem ziz (F:Nat):zG Try.prog (tD (zeK F)) (tS (zeK F)):=zx (zwp (zj8 F) ⟨zqy,rfl,zvJ,rfl⟩) (zj8 F) (.inl rfl)
def zcC (F:Nat):List Ent:=zpD F :: zeK F
theorem zf6 (F:Nat):zG Try.prog (tD (zcC F)) (tS (zcC F)):=zx (zxo (ziz F) ⟨⟩) (ziz F) (.inl rfl)
def zb5 (F:Nat):List Ent:=e31 F :: zcC F
theorem zgH (F:Nat):zG Try.prog (tD (zb5 F)) (tS (zb5 F)):=zx (o31 (zf6 F) ⟨⟩) (zf6 F) (.inl rfl)
def zbr (F:Nat):List Ent:=e73 F :: zb5 F
theorem zgI (F:Nat):zG Try.prog (tD (zbr F)) (tS (zbr F)):=zx (o73 (zgH F) ⟨⟩) (zgH F) (.inl rfl)
def zbQ (F:Nat):List Ent:=e74 F :: zbr F
theorem zg6 (F:Nat):zG Try.prog (tD (zbQ F)) (tS (zbQ F)):=zx (o74 (zgI F) ⟨p24,rfl,p39,rfl⟩) (zgI F) (.inl rfl)
def za9 (F:Nat):List Ent:=e47 F :: zbQ F
theorem zfv (F:Nat):zG Try.prog (tD (za9 F)) (tS (za9 F)):=zx (o47 (zg6 F) ⟨p39,rfl,p22,rfl,p24,rfl,p48,rfl,zqy,rfl,zxs,rfl,zwn,rfl,zvJ,rfl,p31,rfl,p73,rfl,p74,rfl⟩) (zg6 F) (.inl rfl)
def zaZ (F:Nat):List Ent:=e21 F :: za9 F
theorem zgQ (F:Nat):zG Try.prog (tD (zaZ F)) (tS (zaZ F)):=zx (o21 (zfv F) ⟨p47,rfl⟩) (zfv F) (.inl rfl)
def zce (F:Nat):List Ent:=e41 F :: zaZ F
theorem zfD (F:Nat):zG Try.prog (tD (zce F)) (tS (zce F)):=zx (o41 (zgQ F) ⟨⟩) (zgQ F) (.inl rfl)
def zbZ (F:Nat):List Ent:=e28 F :: zce F
theorem zgu (F:Nat):zG Try.prog (tD (zbZ F)) (tS (zbZ F)):=zx (o28 (zfD F) ⟨p41,rfl,p52,rfl⟩) (zfD F) (.inl rfl)
def zcB (F:Nat):List Ent:=e64 F :: zbZ F
theorem zgD (F:Nat):zG Try.prog (tD (zcB F)) (tS (zcB F)):=zx (o64 (zgu F) ⟨⟩) (zgu F) (.inl rfl)
def za8 (F:Nat):List Ent:=e53 F :: zcB F
theorem zgb (F:Nat):zG Try.prog (tD (za8 F)) (tS (za8 F)):=zx (o53 (zgD F) ⟨⟩) (zgD F) (.inl rfl)
def zbY (F:Nat):List Ent:=e63 F :: za8 F
theorem zfC (F:Nat):zG Try.prog (tD (zbY F)) (tS (zbY F)):=zx (o63 (zgb F) ⟨⟩) (zgb F) (.inl rfl)
def zb8 (F:Nat):List Ent:=e62 F :: zbY F
theorem zgK (F:Nat):zG Try.prog (tD (zb8 F)) (tS (zb8 F)):=zx (o62 (zfC F) ⟨p53,rfl,p73,rfl,p63,rfl⟩) (zfC F) (.inl rfl)
def zaU (F:Nat):List Ent:=e42 F :: zb8 F
theorem zge (F:Nat):zG Try.prog (tD (zaU F)) (tS (zaU F)):=zx (o42 (zgK F) ⟨p53,rfl,p62,rfl,p63,rfl⟩) (zgK F) (.inl rfl)
def zbS (F:Nat):List Ent:=e78 F :: zaU F
theorem zgM (F:Nat):zG Try.prog (tD (zbS F)) (tS (zbS F)):=zx (o78 (zge F) ⟨⟩) (zge F) (.inl rfl)
def zcu (F:Nat):List Ent:=e58 F :: zbS F
theorem zgo (F:Nat):zG Try.prog (tD (zcu F)) (tS (zcu F)):=zx (o58 (zgM F) ⟨p64,rfl,p42,rfl,p78,rfl,p31,rfl,p48,rfl⟩) (zgM F) (.inl rfl)
def zcD (F:Nat):List Ent:=e43 F :: zcu F
theorem zfo (F:Nat):zG Try.prog (tD (zcD F)) (tS (zcD F)):=zx (o43 (zgo F) ⟨p64,rfl⟩) (zgo F) (.inl rfl)
def zbL (F:Nat):List Ent:=e80 F :: zcD F
theorem zfn (F:Nat):zG Try.prog (tD (zbL F)) (tS (zbL F)):=zx (o80 (zfo F) ⟨p78,rfl⟩) (zfo F) (.inl rfl)
def zaM (F:Nat):List Ent:=zpt F :: zbL F
theorem zfK (F:Nat):zG Try.prog (tD (zaM F)) (tS (zaM F)):=zx (zwd (zfn F) ⟨⟩) (zfn F) (.inl rfl)
def Lc (F:Nat):List Ent:=e65 F :: zaM F
theorem zg8 (F:Nat):zG Try.prog (tD (Lc F)) (tS (Lc F)):=zx (o65 (zfK F) ⟨⟩) (zfK F) (.inl rfl)
def Lr (F:Nat):List Ent:=zh7 F F :: Lc F
theorem zfB (F:Nat):∀ k,zG Try.prog (tD (zh7 F k :: Lc F)) (tS (zh7 F k :: Lc F))
 | 0=>zx zwB (zg8 F) (.inl rfl)
 | k + 1=>zx (zw2 (zfB F k) ⟨ztg,rfl,p42,rfl,p80,rfl,p65,rfl,fun _ _ _ _ _ r h=>zn3 (k:=k) h,rfl⟩) (zg8 F) (.inl rfl)
theorem zfQ (F:Nat):zG Try.prog (tD (Lr F)) (tS (Lr F)):=zfB F F
def zcl (F:Nat):List Ent:=e61 F F :: Lr F
theorem zgk (F:Nat):∀ k,zG Try.prog (tD (e61 F k :: Lr F)) (tS (e61 F k :: Lr F))
 | 0=>zx z61 (zfQ F) (.inl rfl)
 | k + 1=>zx (o61 (zgk F k) ⟨ztg,rfl,p42,rfl,p80,rfl,p65,rfl,fun _ _ _ _ _ r h=>zn3 (k:=F) h,rfl⟩) (zfQ F) (.inl rfl)
theorem zgi (F:Nat):zG Try.prog (tD (zcl F)) (tS (zcl F)):=zgk F F
def zbd (F:Nat):List Ent:=e38 F :: zcl F
theorem zhc (F:Nat):zG Try.prog (tD (zbd F)) (tS (zbd F)):=zx (o38 (zgi F) ⟨p58,rfl,p43,rfl,fun _ _ _ _ _ r h=>p61 (k:=F) h,rfl⟩) (zgi F) (.inl rfl)
def zb4 (F:Nat):List Ent:=e13 F :: zbd F
theorem zfw (F:Nat):zG Try.prog (tD (zb4 F)) (tS (zb4 F)):=zx (o13 (zhc F) ⟨p28,rfl,p38,rfl⟩) (zhc F) (.inl rfl)
def zct (F:Nat):List Ent:=e23 F :: zb4 F
theorem zfG (F:Nat):zG Try.prog (tD (zct F)) (tS (zct F)):=zx (o23 (zfw F) ⟨p48,rfl,p24,rfl,p22,rfl,p39,rfl⟩) (zfw F) (.inl rfl)
def zbv (F:Nat):List Ent:=zo2 F :: zct F
theorem zfX (F:Nat):zG Try.prog (tD (zbv F)) (tS (zbv F)):=zx (zv0 (zfG F) ⟨p58,rfl,p43,rfl,fun _ _ _ _ _ r h=>zn3 (k:=F) h,rfl⟩) (zfG F) (.inl rfl)
def za0 (F:Nat):List Ent:=zpz F :: zbv F
theorem zgB (F:Nat):zG Try.prog (tD (za0 F)) (tS (za0 F)):=zx (zww (zfX F) ⟨p28,rfl,zx2,rfl⟩) (zfX F) (.inl rfl)
def zbR (F:Nat):List Ent:=e25 F :: za0 F
theorem zgN (F:Nat):zG Try.prog (tD (zbR F)) (tS (zbR F)):=zx (o25 (zgB F) ⟨⟩) (zgB F) (.inl rfl)
def zaQ (F:Nat):List Ent:=e5 F :: zbR F
theorem zf9 (F:Nat):zG Try.prog (tD (zaQ F)) (tS (zaQ F)):=zx (o5 (zgN F) ⟨p21,rfl,zxO,rfl,p22,rfl,p23,rfl,p24,rfl,p25,rfl⟩) (zgN F) (.inl rfl)
def za6 (F:Nat):List Ent:=e40 F :: zaQ F
theorem zf3 (F:Nat):zG Try.prog (tD (za6 F)) (tS (za6 F)):=zx (o40 (zf9 F) ⟨⟩) (zf9 F) (.inl rfl)
def za1 (F:Nat):List Ent:=e83 F :: za6 F
theorem zgO (F:Nat):zG Try.prog (tD (za1 F)) (tS (za1 F)):=zx (o83 (zf3 F) ⟨⟩) (zf3 F) (.inl rfl)
def zbe (F:Nat):List Ent:=e75 F :: za1 F
theorem zfJ (F:Nat):zG Try.prog (tD (zbe F)) (tS (zbe F)):=zx (o75 (zgO F) ⟨p83,rfl⟩) (zgO F) (.inl rfl)
def zbI (F:Nat):List Ent:=e50 F :: zbe F
theorem zhk (F:Nat):zG Try.prog (tD (zbI F)) (tS (zbI F)):=zx (o50 (zfJ F) ⟨p75,rfl⟩) (zfJ F) (.inl rfl)
def zcx (F:Nat):List Ent:=e26 F :: zbI F
theorem zfI (F:Nat):zG Try.prog (tD (zcx F)) (tS (zcx F)):=zx (o26 (zhk F) ⟨p40,rfl,p50,rfl⟩) (zhk F) (.inl rfl)
def zbE (F:Nat):List Ent:=e51 F :: zcx F
theorem zf5 (F:Nat):zG Try.prog (tD (zbE F)) (tS (zbE F)):=zx (o51 (zfI F) ⟨p40,rfl⟩) (zfI F) (.inl rfl)
def zbP (F:Nat):List Ent:=e27 F :: zbE F
theorem zgE (F:Nat):zG Try.prog (tD (zbP F)) (tS (zbP F)):=zx (o27 (zf5 F) ⟨p51,rfl⟩) (zf5 F) (.inl rfl)
def zbK (F:Nat):List Ent:=e6 F :: zbP F
theorem zgS (F:Nat):zG Try.prog (tD (zbK F)) (tS (zbK F)):=zx (o6 (zgE F) ⟨p26,rfl,p27,rfl⟩) (zgE F) (.inl rfl)
def zb6 (F:Nat):List Ent:=e32 F :: zbK F
theorem zfr (F:Nat):zG Try.prog (tD (zb6 F)) (tS (zb6 F)):=zx (o32 (zgS F) ⟨⟩) (zgS F) (.inl rfl)
def zck (F:Nat):List Ent:=e29 F :: zb6 F
theorem zg4 (F:Nat):zG Try.prog (tD (zck F)) (tS (zck F)):=zx (o29 (zfr F) ⟨p41,rfl,p32,rfl,p53,rfl⟩) (zfr F) (.inl rfl)
def zcc (F:Nat):List Ent:=e7 F :: zck F
theorem zgY (F:Nat):zG Try.prog (tD (zcc F)) (tS (zcc F)):=zx (o7 (zg4 F) ⟨p28,rfl,p29,rfl⟩) (zg4 F) (.inl rfl)
def zbi (F:Nat):List Ent:=e55 F :: zcc F
theorem zhg (F:Nat):zG Try.prog (tD (zbi F)) (tS (zbi F)):=zx (o55 (zgY F) ⟨⟩) (zgY F) (.inl rfl)
def zb2 (F:Nat):List Ent:=e30 F :: zbi F
theorem zgs (F:Nat):zG Try.prog (tD (zb2 F)) (tS (zb2 F)):=zx (o30 (zhg F) ⟨p55,rfl⟩) (zhg F) (.inl rfl)
def zch (F:Nat):List Ent:=e8 F :: zb2 F
theorem zfR (F:Nat):zG Try.prog (tD (zch F)) (tS (zch F)):=zx (o8 (zgs F) ⟨p26,rfl,p27,rfl,p30,rfl⟩) (zgs F) (.inl rfl)
def zbU (F:Nat):List Ent:=e9 F :: zch F
theorem zg9 (F:Nat):zG Try.prog (tD (zbU F)) (tS (zbU F)):=zx (o9 (zfR F) ⟨p28,rfl,p29,rfl,p32,rfl,p31,rfl⟩) (zfR F) (.inl rfl)
def zbj (F:Nat):List Ent:=e33 F :: zbU F
theorem zfT (F:Nat):zG Try.prog (tD (zbj F)) (tS (zbj F)):=zx (o33 (zg9 F) ⟨⟩) (zg9 F) (.inl rfl)
def zaP (F:Nat):List Ent:=e35 F :: zbj F
theorem zgU (F:Nat):zG Try.prog (tD (zaP F)) (tS (zaP F)):=zx (o35 (zfT F) ⟨⟩) (zfT F) (.inl rfl)
def zcm (F:Nat):List Ent:=e76 F :: zaP F
theorem zhj (F:Nat):zG Try.prog (tD (zcm F)) (tS (zcm F)):=zx (o76 (zgU F) ⟨⟩) (zgU F) (.inl rfl)
def zaW (F:Nat):List Ent:=e56 F :: zcm F
theorem zgJ (F:Nat):zG Try.prog (tD (zaW F)) (tS (zaW F)):=zx (o56 (zhj F) ⟨p76,rfl⟩) (zhj F) (.inl rfl)
def zb0 (F:Nat):List Ent:=e77 F :: zaW F
theorem zg5 (F:Nat):zG Try.prog (tD (zb0 F)) (tS (zb0 F)):=zx (o77 (zgJ F) ⟨⟩) (zgJ F) (.inl rfl)
def zcq (F:Nat):List Ent:=e57 F :: zb0 F
theorem zgF (F:Nat):zG Try.prog (tD (zcq F)) (tS (zcq F)):=zx (o57 (zg5 F) ⟨p77,rfl⟩) (zg5 F) (.inl rfl)
def zaS (F:Nat):List Ent:=e34 F :: zcq F
theorem zg3 (F:Nat):zG Try.prog (tD (zaS F)) (tS (zaS F)):=zx (o34 (zgF F) ⟨p35,rfl,p56,rfl,p57,rfl⟩) (zgF F) (.inl rfl)
def zbh (F:Nat):List Ent:=e10 F :: zaS F
theorem zgm (F:Nat):zG Try.prog (tD (zbh F)) (tS (zbh F)):=zx (o10 (zg3 F) ⟨p26,rfl,p33,rfl,p34,rfl,p35,rfl⟩) (zg3 F) (.inl rfl)
def za7 (F:Nat):List Ent:=e36 F :: zbh F
theorem zfF (F:Nat):zG Try.prog (tD (za7 F)) (tS (za7 F)):=zx (o36 (zgm F) ⟨p58,rfl⟩) (zgm F) (.inl rfl)
def zcr (F:Nat):List Ent:=e11 F :: za7 F
theorem zg2 (F:Nat):zG Try.prog (tD (zcr F)) (tS (zcr F)):=zx (o11 (zfF F) ⟨p28,rfl,p36,rfl⟩) (zfF F) (.inl rfl)
def Le (F:Nat):List Ent:=e59 F :: zcr F
theorem zgj (F:Nat):zG Try.prog (tD (Le F)) (tS (Le F)):=zx (o59 (zg2 F) ⟨⟩) (zg2 F) (.inl rfl)
def zcw (F:Nat):List Ent:=e60 F F :: Le F
theorem zf0 (F:Nat):∀ k,zG Try.prog (tD (e60 F k :: Le F)) (tS (e60 F k :: Le F))
 | 0=>zx z60 (zgj F) (.inl rfl)
 | k + 1=>zx (o60 (zf0 F k) fun _ _=>⟨p56,rfl,p57,rfl,fun _ _ _ _ h=>p60 (k:=k) h,rfl⟩) (zgj F) (.inl rfl)
theorem zha (F:Nat):zG Try.prog (tD (zcw F)) (tS (zcw F)):=zf0 F F
def zb1 (F:Nat):List Ent:=e37 F :: zcw F
theorem zgy (F:Nat):zG Try.prog (tD (zb1 F)) (tS (zb1 F)):=zx (o37 (zha F) ⟨p34,rfl,p59,rfl,p35,rfl,fun _ _ _ _ _ _ h=>p60 (k:=F) h,rfl⟩) (zha F) (.inl rfl)
def zcA (F:Nat):List Ent:=e12 F :: zb1 F
theorem zf7 (F:Nat):zG Try.prog (tD (zcA F)) (tS (zcA F)):=zx (o12 (zgy F) ⟨p26,rfl,p33,rfl,p37,rfl⟩) (zgy F) (.inl rfl)
def zcn (F:Nat):List Ent:=e15 F :: zcA F
theorem zg1 (F:Nat):zG Try.prog (tD (zcn F)) (tS (zcn F)):=zx (o15 (zf7 F) ⟨⟩) (zf7 F) (.inl rfl)
def zbw (F:Nat):List Ent:=e14 F :: zcn F
theorem zfO (F:Nat):zG Try.prog (tD (zbw F)) (tS (zbw F)):=zx (o14 (zg1 F) ⟨p21,rfl,p24,rfl,p39,rfl⟩) (zg1 F) (.inl rfl)
def K6 (F:Nat):List Ent:=e16 F :: zbw F
theorem zga (F:Nat):zG Try.prog (tD (K6 F)) (tS (K6 F)):=zx (o16 (zfO F) ⟨p26,rfl,p40,rfl,p33,rfl,p34,rfl,p35,rfl⟩) (zfO F) (.inl rfl)
def zbB (F:Nat):List Ent:=e44 F F :: K6 F
theorem zg0 (F:Nat):∀ k,zG Try.prog (tD (e44 F k :: K6 F)) (tS (e44 F k :: K6 F))
 | 0=>zx z44 (zga F) (.inl rfl)
 | k + 1=>zx (o44 (zg0 F k) ⟨p65,rfl,p42,rfl,fun _ _ _ r h=>p44 (k:=k) h,rfl⟩) (zga F) (.inl rfl)
theorem zfV (F:Nat):zG Try.prog (tD (zbB F)) (tS (zbB F)):=zg0 F F
def zb3 (F:Nat):List Ent:=e17 F :: zbB F
theorem zfU (F:Nat):zG Try.prog (tD (zb3 F)) (tS (zb3 F)):=zx (o17 (zfV F) ⟨p28,rfl,p41,rfl,p43,rfl,p42,rfl,fun _ _ _ r h=>p44 (k:=F) h,rfl⟩) (zfV F) (.inl rfl)
def zba (F:Nat):List Ent:=e18 F :: zb3 F
theorem zgw (F:Nat):zG Try.prog (tD (zba F)) (tS (zba F)):=zx (o18 (zfU F) ⟨⟩) (zfU F) (.inl rfl)
def zbs (F:Nat):List Ent:=e81 F :: zba F
theorem zgh (F:Nat):zG Try.prog (tD (zbs F)) (tS (zbs F)):=zx (o81 (zgw F) ⟨p76,rfl,p30,rfl⟩) (zgw F) (.inl rfl)
def za5 (F:Nat):List Ent:=zkS F :: zbs F
theorem zgP (F:Nat):zG Try.prog (tD (za5 F)) (tS (za5 F)):=zx (zqX (zgh F) ⟨p35,rfl,p77,rfl,p81,rfl⟩) (zgh F) (.inl rfl)
def zcj (F:Nat):List Ent:=e66 F :: za5 F
theorem zf2 (F:Nat):zG Try.prog (tD (zcj F)) (tS (zcj F)):=zx (o66 (zgP F) ⟨zrU,rfl⟩) (zgP F) (.inl rfl)
def zcd (F:Nat):List Ent:=e45 F :: zcj F
theorem zfL (F:Nat):zG Try.prog (tD (zcd F)) (tS (zcd F)):=zx (o45 (zf2 F) ⟨p66,rfl⟩) (zf2 F) (.inl rfl)
def zcb (F:Nat):List Ent:=e19 F :: zcd F
theorem zgW (F:Nat):zG Try.prog (tD (zcb F)) (tS (zcb F)):=zx (o19 (zfL F) ⟨p26,rfl,p40,rfl,p33,rfl,p45,rfl⟩) (zfL F) (.inl rfl)
def zbA (F:Nat):List Ent:=e82 F :: zcb F
theorem zhh (F:Nat):zG Try.prog (tD (zbA F)) (tS (zbA F)):=zx (o82 (zgW F) ⟨p77,rfl⟩) (zgW F) (.inl rfl)
def zbg (F:Nat):List Ent:=e68 F :: zbA F
theorem zgA (F:Nat):zG Try.prog (tD (zbg F)) (tS (zbg F)):=zx (o68 (zhh F) ⟨p82,rfl,p30,rfl⟩) (zhh F) (.inl rfl)
def zbn (F:Nat):List Ent:=zkr F :: zbg F
theorem zfZ (F:Nat):zG Try.prog (tD (zbn F)) (tS (zbn F)):=zx (zqT (zgA F) ⟨p35,rfl,p77,rfl,p68,rfl⟩) (zgA F) (.inr rfl)
def zcz (F:Nat):List Ent:=e46 F :: zbn F
theorem zgT (F:Nat):zG Try.prog (tD (zcz F)) (tS (zcz F)):=zx (o46 (zfZ F) ⟨zrb,rfl⟩) (zfZ F) (.inl rfl)
def zbt (F:Nat):List Ent:=e20 F :: zcz F
theorem zfA (F:Nat):zG Try.prog (tD (zbt F)) (tS (zbt F)):=zx (o20 (zgT F) ⟨p26,rfl,p33,rfl,p46,rfl⟩) (zgT F) (.inl rfl)
def zgL (F:Nat):List Ent:=e3 F :: zbt F
theorem zlM (F:Nat):zG Try.prog (tD (zgL F)) (tS (zgL F)):=zx (o3 (zfA F) ⟨p4,rfl,p5,rfl,p6,rfl,p7,rfl,p8,rfl,p9,rfl,p10,rfl,p11,rfl,p12,rfl,p13,rfl,p15,rfl,p14,rfl,p16,rfl,p17,rfl,p18,rfl,p19,rfl,p20,rfl⟩) (zfA F) (.inl rfl)
theorem zv3 (F:Nat) (x0:LB) (h:u7 F x0=some true):UQ Try.prog 3 0 false [Enc.enc x0] (.bool true):=NK ((zlM F).con 3 _ _ 0 false (p3 h) rfl) rfl rfl
end Go.Zq
