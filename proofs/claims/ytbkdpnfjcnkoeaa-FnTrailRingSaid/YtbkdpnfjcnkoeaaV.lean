-- All of these words.
import Derived.Test.YtbkdpnfjcnkoeaaV0
