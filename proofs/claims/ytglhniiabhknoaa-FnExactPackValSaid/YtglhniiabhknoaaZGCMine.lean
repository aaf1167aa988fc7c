import Derived.Test.YtglhniiabhknoaaZGCWWords
import Derived.WalkLawsBesides
set_option linter.unusedVariables false
set_option linter.unusedSimpArgs false
namespace Go.Proofs.Ytglhniiabhknoaa.Mine
open Go.RowKit
theorem less_turned:∀ (x y:List UInt8),Op.bytesLess y x = !(Op.bytesLess x y || x == y)
 | [],[]=>by simp[Op.bytesLess]
 | a :: x,[]=>by simp[Op.bytesLess]
 | [],b :: y=>by simp[Op.bytesLess]
 | a :: x,b :: y=>by
  have ih:=less_turned x y
  simp only[Op.bytesLess,ih]
  by_cases h1:a<b
  ·have h2:¬b<a:=fun h=>absurd (UInt8.lt_trans h1 h) (UInt8.lt_irrefl a)
   have h3:¬b=a:=fun h=>absurd (h ▸ h1) (UInt8.lt_irrefl _)
   simp[h1,h2,h3]
  ·by_cases h3:a=b
   ·subst h3
    simp[UInt8.lt_irrefl]
   ·have h2:b<a:=by
     rcases Nat.lt_trichotomy a.toNat b.toNat with h|h|h
     ·exact absurd (UInt8.lt_iff_toNat_lt.2 h) h1
     ·exact absurd (UInt8.toNat_inj.1 h) h3
     ·exact UInt8.lt_iff_toNat_lt.2 h
    simp[h1,h2,h3]
theorem str_gtr (t:TypeId) (a b:ByteArray):binOp .gtr t (.string a) (.string b)=pure (.bool (Op.bytesLess b.toList a.toList)):=by
 rw[less_turned]
 simp[binOp,Op.stringOp]
theorem str_leq (t:TypeId) (a b:ByteArray):binOp .leq t (.string a) (.string b)=pure (.bool !(Op.bytesLess b.toList a.toList)):=by
 rw[less_turned]
 simp[binOp,Op.stringOp]
theorem str_geq (t:TypeId) (a b:ByteArray):binOp .geq t (.string a) (.string b)=pure (.bool !(Op.bytesLess a.toList b.toList)):=by simp[binOp,Op.stringOp]
end Go.Proofs.Ytglhniiabhknoaa.Mine
