/- The texts DicB, one behind the other. -/
import Derived.Test.YtjhajgffmnkocaaGreatDoorPq2
import Derived.Test.YtjhajgffmnkocaaGreatDoorPq19
open List renaming range → Aa
namespace Go.Proofs.YtjhajgffmnkocaaGreatDoor
open Go Go.RowKit
def jG (es:List En) (s:ByteArray):List En:=es.filter λx=>decide (x.r=s)
def ofL (es:List En) (s:ByteArray):List En:=es.filter λx=>decide (x.s=s)
def qR (s p:ByteArray):Bool:=(bl p).isPrefixOf (bl s)
def cutB (s:ByteArray) (n:Nat):ByteArray:=mkB ((bl s).take n)
def nV1 (es:List En) (s:ByteArray):List En:=(Aa (min s.size 256+1)).flatMap λn=>jG es (cutB s n)
def kJ1 (es:List En) (s:ByteArray):List En:=(Aa (min s.size 256+1)).flatMap λn=>ofL es (cutB s n)
def jQ (es:List En) (p:ByteArray) (ar:Int):List En:=(es.filter λx=>qR x.r p).take ar.toNat
end Go.Proofs.YtjhajgffmnkocaaGreatDoor
