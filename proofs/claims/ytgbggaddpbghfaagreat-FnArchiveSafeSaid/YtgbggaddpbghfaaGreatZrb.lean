/- The readings of a law's arguments that are slices of bytes are pictures of lists of bytes. No conditions. -/
import Derived.Test.YtgbggaddpbghfaaGreatKAS
namespace Go.Proofs.YtgbggaddpbghfaaGreat
open Go Go.KA Go.Proofs
theorem Tt(n:Nat):Reads Tryz.prog 5 1 Nj (fun _=>0) (fun _=>True) n:=by
 intro H eH w base sp held cs x hx;obtain⟨z,h1,h2,h3,h4⟩:=(Reads.int (n:=n) Tryz.underlying5) H eH w base sp held cs x hx;have h5:0≤z/\z≤255:=h4;refine⟨UInt8.ofNat z.toNat,h1,?_,ah _,trivial⟩;have e:Nj (UInt8.ofNat z.toNat)=[.val (.int .u8 z)]:=by
  show[CV.val (.int .u8 (((UInt8.ofNat z.toNat).toNat:Nat):Int))]=_;rw[UInt8.toNat_ofNat',Nat.mod_eq_of_lt (by omega),show((z.toNat:Nat):Int)=z by omega]
 rw[e];exact h2
theorem CT:∀n,Reads Tryz.prog 22 1 (fun l:List UInt8=>[.ro 1 (l.map Nj)]) (fun _=>0) (fun _=>True) n
 |0=>Reads.zero
 |n+1=>(Reads.slice (sz:=1) (enc:=Nj) Tryz.underlying22 (by kernel_rfl) (by decide) (fun _=>rfl) (Tt n)).map id (fun _=>rfl) (fun _=>ah _) (fun _ _=>trivial)
end Go.Proofs.YtgbggaddpbghfaaGreat
